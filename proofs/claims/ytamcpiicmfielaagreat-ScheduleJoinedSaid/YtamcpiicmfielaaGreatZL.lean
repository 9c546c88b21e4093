import Derived.Test.YtamcpiicmfielaaGreatZV2
import Derived.Test.YtamcpiicmfielaaGreatZP
import Derived.Test.YtamcpiicmfielaaGreatProg
set_option linter.unusedVariables false
set_option linter.unusedSimpArgs false
namespace Go.Proofs.YtamcpiicmfielaaGreat.L
open Go Go.V Go.RowKit Go.Proofs.YtamcpiicmfielaaGreat.Sp Go.Proofs.YtamcpiicmfielaaGreat.F Go.Proofs.YtamcpiicmfielaaGreatW.PrintWords
open Go.Proofs (Tryz.prog)
noncomputable section
def EL0:Env:= ⟨fun _ _=>none,fun _=>false,fun _ _ _=>none⟩
noncomputable def lb (g:FuncId) (p:List Bool):Code:=match subC Tryz.prog g p with | some (.loop c)=>c | _=> .skip
theorem mixed:Tryz.prog.follows .mixedOrders=true:=by kernel_rfl
theorem strEq_nil (s:ByteArray):strEq s ⟨#[]⟩=decide (s.toList= []):=by
 unfold strEq
 rw [show (⟨#[]⟩:ByteArray).data.toList= [] from rfl]
 by_cases h:s.toList= []
 ·rw [decide_eq_true h,(toList_nil s).1 h];rfl
 ·rw [decide_eq_false h]
  have:s.data.toList≠ []:=fun e=>h ((toList_nil s).2 e)
  cases hd:s.data.toList with
  | nil=>exact absurd hd this
  | cons a l=>rfl
theorem byteAt_bt (s:ByteArray) (i:Nat) (h:i < s.size):byteAt s i=bt s (i:Int):=by
 have h2:i < s.data.toList.length:=by rw [len_data];exact h
 rw [bt_nat h2]
 unfold byteAt
 rw [List.getD_eq_getElem?_getD,List.getElem?_eq_getElem h2]
 rfl
theorem strSub_extract (s:ByteArray) (a b:Nat):strSub s a b=s.extract a b:=by
 apply bytes_ext
 unfold strSub
 rw [Lib.extract_data]
def shStrip (s:ByteArray):List AV:= .val (.string s) :: List.replicate 12 .any
theorem strip_round (s:ByteArray):roundA Tryz.prog EL0 139 [0] (lb 139 [false,false,true]) [false,false,false,true] (shStrip s) []=
  (bif !strEq s ⟨#[]⟩ then bif decide ((0:Int)≤0)&&decide ((0:Int) < s.size) then bif decide (byteAt s 0=0) then bif decide ((0:Int)≤1)&&decide ((1:Int)≤s.size) then some (.normal,shStrip (strSub s 1 s.size), []) else none else some (.exit 0,shStrip s, []) else none else some (.exit 0,shStrip s, [])):=by kernel_rfl
theorem strip_body:subC Tryz.prog 139 [false,false,true]=some (.loop (lb 139 [false,false,true])):=by kernel_rfl
theorem strip_code:subC Tryz.prog 139 [false,false,false,true]=some (lb 139 [false,false,true]):=by kernel_rfl
theorem strip_step {s:ByteArray} {e:Ex} {T:List AV} {H:Hp} (h:roundA Tryz.prog EL0 139 [0] (lb 139 [false,false,true]) [false,false,false,true] (shStrip s) []=some (e,T,H)):V.Ends Tryz.prog false 0 0 (lb 139 [false,false,true]) (shStrip s) [] e T H:=
 round_ends (meets_none _) loops_none mixed strip_code h
theorem strip_loop:∀ (k:Nat) (s r:ByteArray),bigint_strip.l0 k s=some r→LoopTo Tryz.prog (lb 139 [false,false,true]) (shStrip s) [] (.exit 0) (shStrip r) []
 | 0,s,r,h=>by simp [bigint_strip.l0] at h
 | k+1,s,r,h=>by
  rw [bigint_strip.l0] at h
  have hr:=strip_round s
  rw [strEq_nil] at hr
  by_cases h1:s.toList= []
  ·rw [if_pos h1] at h
   cases h
   rw [decide_eq_true h1] at hr
   exact .last (strip_step hr) (by intro h;cases h)
  ·rw [if_neg h1] at h
   rw [decide_eq_false h1] at hr
   by_cases h2:0 < (s.size:Int)
   ·rw [if_pos h2] at h
    have e0:byteAt s 0=bt s 0:=byteAt_bt s 0 (by omega)
    rw [e0] at hr
    simp only [h2,decide_true,Bool.not_false,cond,Int.le_refl,Bool.and_self] at hr
    by_cases h3:bt s 0=0
    ·rw [if_pos h3] at h
     by_cases h4:1≤(s.size:Int)
     ·rw [if_pos h4] at h
      simp only [h3,h4,decide_true,show ((0:Int)≤1)=True from by simp,Bool.and_self,strSub_extract] at hr
      exact .more (strip_step hr) (strip_loop k _ r h)
     ·rw [if_neg h4] at h;cases h
    ·rw [if_neg h3] at h
     cases h
     simp only [h3,decide_false] at hr
     exact .last (strip_step hr) (by intro h;cases h)
   ·rw [if_neg h2] at h;cases h
def stripL (T:List AV) (H:Hp):Option (Bool×Ex×List AV×Hp):=
 match T,H with
 | [.val (.string s), .any, .any, .any, .any, .any, .any, .any, .any, .any, .any, .any, .any], []=>some (true, .exit 0,shStrip (magOf (vS s)), [])
 | _,_=>none
def LL1:=addL 139 [false,false,true] [0] stripL noL
theorem LL1_ok:LOk Tryz.prog LL1:=LOk.none.add strip_body (fun T H e T' H' h=>by
 unfold stripL at h
 split at h
 ·cases h
  obtain ⟨k,hk⟩:=strip_to _
  exact strip_loop k _ _ hk
 ·cases h)
def stripC (args:List AV):Option (Bool×AV):=match args with | [.val (.string s)]=>some (true, .val (.string (magOf (vS s)))) | _=>none
def EL1:Env:= ⟨noC,fun _=>false,LL1⟩
theorem strip_entry:Entry Tryz.prog 139 stripC:=by
 refine entry_of (E:=EL1) (u:=10) (d:=10) (meets_none _) LL1_ok.ok mixed (by kernel_rfl) (fun args r h=> ?_)
 unfold stripC at h
 split at h
 ·rename_i s
  cases h
  have:callA Tryz.prog EL1 10 10 139 [.val (.string s)]=some (.val (.string (magOf (vS s)))):=by kernel_rfl
  exact this
 ·cases h
end
end Go.Proofs.YtamcpiicmfielaaGreat.L
namespace Go.Proofs.YtamcpiicmfielaaGreat.L
open Go Go.V Go.RowKit Go.Proofs.YtamcpiicmfielaaGreat.Sp Go.Proofs.YtamcpiicmfielaaGreat.F Go.Proofs.YtamcpiicmfielaaGreatW.PrintWords
open Go.Proofs (Tryz.prog)
noncomputable section
def numOf:AV→Int
 | .val (.int .u32 z)=>z
 | _=> -1
def rowOf (m:Nat) (f:Nat→Nat→AV):List Int:=(List.range m).map fun j=>numOf (f j 0)
def okB (m:Nat) (f:Nat→Nat→AV):Bool:=(rowOf m f).all fun z=>decide (0≤z)&&decide (z < 4294967296)
def lim (zs:List Int):Nat→Nat→AV:=fun j _=> .val (.int .u32 (zs.getD j 0))
def encL (n:Nat):AV:= .lst false 129 (toL n).length (lim (toL n))
theorem rowOf_lim (zs:List Int) {m:Nat} (h:m≤zs.length):rowOf m (lim zs)=zs.take m:=by
 apply List.ext_getElem?
 intro i
 unfold rowOf lim
 rw [List.getElem?_map,List.getElem?_take]
 simp only [numOf]
 by_cases hi:i < m
 ·rw [List.getElem?_range hi,if_pos hi,List.getElem?_eq_getElem (by omega)]
  simp only [Option.map_some,List.getD_eq_getElem?_getD,List.getElem?_eq_getElem (show i < zs.length by omega),Option.getD_some,numOf]
 ·rw [if_neg hi,List.getElem?_eq_none (by simpa using hi)]
  rfl
theorem rowOf_enc (n:Nat):rowOf (toL n).length (lim (toL n))=toL n:=by rw [rowOf_lim _ (Nat.le_refl _),List.take_length]
theorem okB_iff (m:Nat) (f:Nat→Nat→AV):okB m f=true↔okL (rowOf m f):=by
 unfold okB okL
 rw [List.all_eq_true]
 constructor
 ·intro h x hx
  have:=h x hx
  simpa using this
 ·intro h x hx
  have:=h x hx
  simpa using this
theorem okB_enc (n:Nat):okB (toL n).length (lim (toL n))=true:=by rw [okB_iff,rowOf_enc];exact okL_toL n
theorem rowOf_len (m:Nat) (f:Nat→Nat→AV):(rowOf m f).length=m:=by simp [rowOf]
section
variable {P : Program} {α : Nat → Nat × Nat} {B : Nat → Prop} {w : World} {D : Nat → Prop} {x : Value}
theorem row_congr {fl:Bool} {t:TypeId} {m:Nat} {f g:Nat→Nat→AV} (hc:P.cellsOf t=1) (hfg:∀ j,j < m→f j 0=g j 0) (h:(AV.lst fl t m f).Rel P α B w D x):(AV.lst fl t m g).Rel P α B w D x:=by
 obtain ⟨A,cap,h1,h2,h3,h4⟩:=h
 refine ⟨A,cap,h1,h2,h3, ?_⟩
 rcases h4 with h4 | ⟨b,o,cs,ty,fr,h5,h6,h7,h8⟩
 ·exact .inl h4
 ·refine .inr ⟨b,o,cs,ty,fr,h5,h6,h7,fun j k hj hk=> ?_⟩
  obtain ⟨y,h9,h10⟩:=h8 j k hj hk
  have hk0:k=0:=by omega
  subst hk0
  exact ⟨y,h9,by rw [← hfg j hj];exact h10⟩
theorem row_norm {fl:Bool} {t:TypeId} {m:Nat} {f:Nat→Nat→AV} (hc:P.cellsOf t=1) (hok:okB m f=true) (h:(AV.lst fl t m f).Rel P α B w D x):(AV.lst fl t m (lim (rowOf m f))).Rel P α B w D x:=by
 refine row_congr hc (fun j hj=> ?_) h
 have hj2:j < (rowOf m f).length:=by rw [rowOf_len];exact hj
 have hr:=(okB_iff m f).1 hok _ (List.getElem_mem hj2)
 unfold lim
 rw [List.getD_eq_getElem?_getD,List.getElem?_eq_getElem hj2,Option.getD_some]
 have e:(rowOf m f)[j]=numOf (f j 0):=by simp [rowOf]
 rw [e] at hr ⊢
 unfold numOf at hr ⊢
 split at hr
 ·rename_i z hz
  rw [hz]
 ·omega
end
theorem entry_to {E:Env} {g:FuncId} (hC:Meets Tryz.prog E.C) (hL:LoopsOk Tryz.prog E) (hok:okFn Tryz.prog g=true) {u d:Nat} {f:List AV→Option (Bool×AV)}
  (h:∀ args r,f args=some (true,r)→∃ args' v,callA Tryz.prog E u d g args'=some v∧(∀ (B:Nat→Prop) (w:World) (ys:List Value),RelL Tryz.prog NoA B w args NoD ys→RelL Tryz.prog NoA B w args' NoD ys)∧(∀ (B:Nat→Prop) (w:World) (y:Value),v.Rel Tryz.prog NoA B w NoD y→r.Rel Tryz.prog NoA B w NoD y)):Entry Tryz.prog g f:=by
 intro args r hr B w xs hB hx
 obtain ⟨args',v,h1,h2,h3⟩:=h args r hr
 refine (callA_sound hC hL mixed hok h1 B w xs hB (h2 B w _ hx)).mono ?_
 rintro e w' ⟨y,h4,h5,h6⟩
 exact ⟨y,h4,h5,h3 B w' y h6⟩
def shTrim (zs:List Int) (m:Nat):List AV:= .lst false 129 m (lim zs) :: List.replicate 20 .any
theorem trim_body:subC Tryz.prog 140 [false,false,true]=some (.loop (lb 140 [false,false,true])):=by kernel_rfl
theorem trim_code:subC Tryz.prog 140 [false,false,false,true]=some (lb 140 [false,false,true]):=by kernel_rfl
theorem trim_round (zs:List Int) (m:Nat):roundA Tryz.prog EL0 140 [0] (lb 140 [false,false,true]) [false,false,false,true] (shTrim zs m) []=
  (bif decide ((0:Int) < m) then bif inR .i64 ((m:Int) - 1) then bif decide (0≤(m:Int) - 1)&&decide ((m:Int) - 1 < m) then bif decide (zs.getD ((m:Int) - 1).toNat 0=0) then bif inR .i64 ((m:Int) - 1) then bif decide (0≤(m:Int) - 1)&&decide ((m:Int) - 1≤m) then some (.normal,shTrim zs ((m:Int) - 1).toNat, []) else none else none else some (.exit 0,shTrim zs m, []) else none else none else some (.exit 0,shTrim zs m, [])):=by kernel_rfl
theorem trim_step {zs:List Int} {m:Nat} {e:Ex} {T:List AV} {H:Hp} (h:roundA Tryz.prog EL0 140 [0] (lb 140 [false,false,true]) [false,false,false,true] (shTrim zs m) []=some (e,T,H)):V.Ends Tryz.prog false 0 0 (lb 140 [false,false,true]) (shTrim zs m) [] e T H:=
 round_ends (meets_none _) loops_none mixed trim_code h
theorem i64_ok {z:Int} (h0: -9223372036854775808≤z) (h1:z≤9223372036854775807):inR .i64 z=true:=by
 unfold inR
 rw [Bool.and_eq_true,decide_eq_true_eq,decide_eq_true_eq]
 exact ⟨h0,h1⟩
def trimN (zs:List Int):Nat→Nat
 | 0=>0
 | m+1=>if zs.getD m 0=0 then trimN zs m else m+1
theorem trim_loop (zs:List Int):∀ (m:Nat),m≤140737488355328→LoopTo Tryz.prog (lb 140 [false,false,true]) (shTrim zs m) [] (.exit 0) (shTrim zs (trimN zs m)) []
 | 0,_=> .last (trim_step (by rw [trim_round];rfl)) (by intro h;cases h)
 | m+1,hm=>by
  have hr:=trim_round zs (m+1)
  have e1:(((m+1:Nat):Int) - 1)=(m:Int):=by omega
  rw [e1,i64_ok (by omega) (by omega),decide_eq_true (show (0:Int) < ((m+1:Nat):Int) by omega),decide_eq_true (show (0:Int)≤(m:Int) by omega),decide_eq_true (show (m:Int) < ((m+1:Nat):Int) by omega),decide_eq_true (show (m:Int)≤((m+1:Nat):Int) by omega),Int.toNat_natCast] at hr
  unfold trimN
  by_cases h:zs.getD m 0=0
  ·rw [if_pos h]
   rw [decide_eq_true h] at hr
   exact .more (trim_step hr) (trim_loop zs m (by omega))
  ·rw [if_neg h]
   rw [decide_eq_false h] at hr
   exact .last (trim_step hr) (by intro h;cases h)
theorem trimN_le (zs:List Int):∀ m,trimN zs m≤m
 | 0=>Nat.le_refl _
 | m+1=>by
  unfold trimN
  split
  ·exact Nat.le_trans (trimN_le zs m) (Nat.le_succ m)
  ·exact Nat.le_refl _
theorem trimN_row {zs:List Int} (hok:okL zs):∀ m,m≤zs.length→zs.take (trimN zs m)=toL (vL (zs.take m))
 | 0,_=>by rw [trimN,List.take_zero,vL_nil,toL_zero]
 | m+1,hm=>by
  have hlt:m < zs.length:=hm
  have hg:zs.getD m 0=zs[m]:=by rw [List.getD_eq_getElem?_getD,List.getElem?_eq_getElem hlt];rfl
  have ht:zs.take (m+1)=zs.take m ++ [zs[m]]:=by rw [List.take_add_one,List.getElem?_eq_getElem hlt];rfl
  unfold trimN
  by_cases h:zs.getD m 0=0
  ·rw [if_pos h,trimN_row hok m (by omega),ht,vL_append,show zs[m]=0 by rw [← hg];exact h]
   simp [vL_cons,vL_nil]
  ·rw [if_neg h]
   have hokt:okL (zs.take (m+1)):=fun x hx=>hok x (List.mem_of_mem_take hx)
   refine eq_toL hokt (fun _=> ?_)
   rw [List.length_take,Nat.min_eq_left hm,ht,vL_append,List.length_take,Nat.min_eq_left (by omega),vL_cons,vL_nil]
   have h0:=hok _ (List.getElem_mem hlt)
   have:1≤(zs[m]).toNat:=by
    have:zs[m]≠0:=by rw [← hg];exact h
    omega
   simp only [Nat.mul_zero,Nat.add_zero,Nat.add_sub_cancel]
   have:=Nat.mul_le_mul_left (4294967296 ^ m) this
   omega
def trimL (T:List AV) (H:Hp):Option (Bool×Ex×List AV×Hp):=
 match T,H with
 | [.lst false 129 m f, .any, .any, .any, .any, .any, .any, .any, .any, .any, .any, .any, .any, .any, .any, .any, .any, .any, .any, .any, .any], []=>some (okB m f&&decide (m≤140737488355328), .exit 0,shTrim (rowOf m f) (trimN (rowOf m f) m), [])
 | _,_=>none
theorem cells129:Tryz.prog.cellsOf 129=1:=by kernel_rfl
def LL2:=addL 140 [false,false,true] [0] trimL LL1
theorem LL2_ok:LOk Tryz.prog LL2:=LL1_ok.add2 trim_body (fun T H e T' H' h=>by
 unfold trimL at h
 split at h
 ·rename_i m f
  simp only [Option.some.injEq,Prod.mk.injEq,Bool.and_eq_true,decide_eq_true_eq] at h
  obtain ⟨⟨hok,hm⟩,rfl,rfl,rfl⟩:=h
  refine Ends.pre (trim_loop (rowOf m f) m hm).ends (fun α B w D ys hr=> ?_)
  obtain ⟨y,zs,rfl,h1,h2⟩:=hr
  exact ⟨y,zs,rfl,row_norm cells129 hok h1,h2⟩
 ·cases h)
def EL2:Env:= ⟨addC 139 stripC noC,fun _=>false,LL2⟩
theorem EL2_C:Meets Tryz.prog EL2.C:=(meets_none _).add strip_entry
def trimC (args:List AV):Option (Bool×AV):=match args with | [.lst fl 129 m f]=>some (okB m f&&decide (m≤140737488355328),encL (vL (rowOf m f))) | _=>none
theorem trim_call (zs:List Int) (m:Nat):callA Tryz.prog EL2 10 10 140 [.lst false 129 m (lim zs)]=(bif okB m (lim zs)&&decide (m≤140737488355328) then some (.lst false 129 (trimN (rowOf m (lim zs)) m) (lim (rowOf m (lim zs)))) else none):=by kernel_rfl
theorem trim_entry:Entry Tryz.prog 140 trimC:=by
 refine entry_to (E:=EL2) (u:=10) (d:=10) EL2_C LL2_ok.ok (by kernel_rfl) (fun args r h=> ?_)
 unfold trimC at h
 split at h
 ·rename_i fl m f
  simp only [Option.some.injEq,Prod.mk.injEq,Bool.and_eq_true,decide_eq_true_eq] at h
  obtain ⟨⟨hok,hm⟩,rfl⟩:=h
  have hl:=rowOf_len m f
  have hok2:=(okB_iff m f).1 hok
  have hrow:rowOf m (lim (rowOf m f))=rowOf m f:=by rw [rowOf_lim _ (by omega),List.take_of_length_le (by omega)]
  have hcall:=trim_call (rowOf m f) m
  rw [hrow,show okB m (lim (rowOf m f))=true by rw [okB_iff,hrow];exact hok2,decide_eq_true hm] at hcall
  refine ⟨_,_,hcall,fun B w ys hr=> ?_,fun B w y hr=> ?_⟩
  ·obtain ⟨y,zs,rfl,h1,h2⟩:=hr
   exact ⟨y,zs,rfl,lst_flag (row_norm cells129 hok h1),h2⟩
  ·have e:=trimN_row hok2 m (by omega)
   rw [show (rowOf m f).take m=rowOf m f from List.take_of_length_le (by omega)] at e
   have el:trimN (rowOf m f) m=(toL (vL (rowOf m f))).length:=by
    rw [← e,List.length_take,Nat.min_eq_left (Nat.le_trans (trimN_le _ _) (by omega))]
   unfold encL
   rw [← el]
   refine row_congr cells129 (fun j hj=> ?_) hr
   unfold lim
   rw [← e,List.getD_eq_getElem?_getD,List.getD_eq_getElem?_getD,List.getElem?_take,if_pos hj]
 ·cases h
end
end Go.Proofs.YtamcpiicmfielaaGreat.L
namespace Go.Proofs.YtamcpiicmfielaaGreat.L
open Go Go.V Go.RowKit Go.Proofs.YtamcpiicmfielaaGreat.Sp Go.Proofs.YtamcpiicmfielaaGreat.F Go.Proofs.YtamcpiicmfielaaGreatW.PrintWords
open Go.Proofs (Tryz.prog)
noncomputable section
def shCmp (zs us:List Int) (m:Nat) (i:Int):List AV:=slots 43 [(0, .lst false 129 m (lim zs)),(1, .lst false 129 m (lim us)),(5, .val (.int .i64 i))]
theorem cmp_body:subC Tryz.prog 107 [false,true,false,true,true]=some (.loop (lb 107 [false,true,false,true,true])):=by kernel_rfl
theorem cmp_code:subC Tryz.prog 107 [false,false,true,false,true,true]=some (lb 107 [false,true,false,true,true]):=by kernel_rfl
theorem cmp_round (zs us:List Int) (m:Nat) (i:Int):roundA Tryz.prog EL0 107 [0,1,4,5] (lb 107 [false,true,false,true,true]) [false,false,true,false,true,true] (shCmp zs us m i) []=
  (bif decide (0≤i) then bif decide (0≤i)&&decide (i < m) then bif decide (0≤i)&&decide (i < m) then bif decide (zs.getD i.toNat 0 < us.getD i.toNat 0) then some (.ret,slots 43 [(0, .lst false 129 m (lim zs)),(1, .lst false 129 m (lim us)),(4, .val (.int .i64 (-1))),(5, .val (.int .i64 i))], [])
   else bif decide (0≤i)&&decide (i < m) then bif decide (0≤i)&&decide (i < m) then bif decide (us.getD i.toNat 0 < zs.getD i.toNat 0) then some (.ret,slots 43 [(0, .lst false 129 m (lim zs)),(1, .lst false 129 m (lim us)),(4, .val (.int .i64 1)),(5, .val (.int .i64 i))], [])
   else bif inR .i64 (i - 1) then some (.normal,shCmp zs us m (i - 1), []) else none else none else none else none else none else some (.exit 0,shCmp zs us m i, [])):=by kernel_rfl
theorem cmp_step {zs us:List Int} {m:Nat} {i:Int} {e:Ex} {T:List AV} {H:Hp} (h:roundA Tryz.prog EL0 107 [0,1,4,5] (lb 107 [false,true,false,true,true]) [false,false,true,false,true,true] (shCmp zs us m i) []=some (e,T,H)):V.Ends Tryz.prog false 0 0 (lb 107 [false,true,false,true,true]) (shCmp zs us m i) [] e T H:=
 round_ends (meets_none _) loops_none mixed cmp_code h
def cmpD (zs us:List Int):Nat→Int
 | 0=>0
 | j+1=>if zs.getD j 0 < us.getD j 0 then -1 else if us.getD j 0 < zs.getD j 0 then 1 else cmpD zs us j
def cmpE (c:Int):Ex:=if c=0 then .exit 0 else .ret
def cmpT (c:Int):List AV:=if c=0 then slots 43 [] else slots 43 [(4, .val (.int .i64 c))]
theorem cmp_loop (zs us:List Int) (m:Nat):∀ (d:Nat),d≤m→m≤140737488355328→LoopTo Tryz.prog (lb 107 [false,true,false,true,true]) (shCmp zs us m ((d:Int) - 1)) [] (cmpE (cmpD zs us d)) (cmpT (cmpD zs us d)) []
 | 0,_,_=> .last (ends_gc (keep:= []) (cmp_step (by rw [cmp_round];rfl)) (by kernel_rfl)) (by intro h;cases h)
 | d+1,hd,hm=>by
  have hr:=cmp_round zs us m (d:Int)
  rw [decide_eq_true (show (0:Int)≤(d:Int) by omega),decide_eq_true (show (d:Int) < (m:Int) by omega),i64_ok (by omega) (by omega),Int.toNat_natCast] at hr
  rw [show (((d+1:Nat):Int) - 1)=(d:Int) by omega]
  unfold cmpD
  by_cases h1:zs.getD d 0 < us.getD d 0
  ·rw [if_pos h1]
   rw [decide_eq_true h1] at hr
   exact .last (ends_gc (keep:= [4]) (cmp_step hr) (by kernel_rfl)) (by intro h;cases h)
  ·rw [if_neg h1]
   rw [decide_eq_false h1] at hr
   by_cases h2:us.getD d 0 < zs.getD d 0
   ·rw [if_pos h2]
    rw [decide_eq_true h2] at hr
    exact .last (ends_gc (keep:= [4]) (cmp_step hr) (by kernel_rfl)) (by intro h;cases h)
   ·rw [if_neg h2]
    rw [decide_eq_false h2] at hr
    exact .more (cmp_step hr) (cmp_loop zs us m d (by omega) hm)
theorem cmpD_eq {zs us:List Int} (hz:okL zs) (hu:okL us):∀ d,d≤zs.length→d≤us.length→cmpD zs us d=cmpN (vL (zs.take d)) (vL (us.take d))
 | 0,_,_=>by simp [cmpD,cmpN]
 | d+1,h1,h2=>by
  have g1:zs.getD d 0=zs[d]:=by rw [List.getD_eq_getElem?_getD,List.getElem?_eq_getElem h1];rfl
  have g2:us.getD d 0=us[d]:=by rw [List.getD_eq_getElem?_getD,List.getElem?_eq_getElem h2];rfl
  have t1:zs.take (d+1)=zs.take d ++ [zs[d]]:=by rw [List.take_add_one,List.getElem?_eq_getElem h1];rfl
  have t2:us.take (d+1)=us.take d ++ [us[d]]:=by rw [List.take_add_one,List.getElem?_eq_getElem h2];rfl
  have b1:=vL_lt (l:=zs.take d) (fun x hx=>hz x (List.mem_of_mem_take hx))
  have b2:=vL_lt (l:=us.take d) (fun x hx=>hu x (List.mem_of_mem_take hx))
  have ih:=cmpD_eq hz hu d (by omega) (by omega)
  have o1:=hz _ (List.getElem_mem h1)
  have o2:=hu _ (List.getElem_mem h2)
  rw [List.length_take,Nat.min_eq_left (by omega)] at b1 b2
  unfold cmpD
  rw [g1,g2,t1,t2,vL_append,vL_append,List.length_take,List.length_take,Nat.min_eq_left (by omega),Nat.min_eq_left (by omega),vL_cons,vL_cons,vL_nil,ih]
  generalize vL (zs.take d)=a at*
  generalize vL (us.take d)=b at*
  generalize zs[d]=x at*
  generalize us[d]=y at*
  simp only [Nat.mul_zero,Nat.add_zero]
  unfold cmpN
  by_cases c1:x < y
  ·have:=Nat.mul_le_mul_left (4294967296 ^ d) (show x.toNat+1≤y.toNat by omega)
   rw [Nat.mul_add,Nat.mul_one] at this
   rw [if_pos c1,if_pos (by omega)]
  ·rw [if_neg c1]
   by_cases c2:y < x
   ·have:=Nat.mul_le_mul_left (4294967296 ^ d) (show y.toNat+1≤x.toNat by omega)
    rw [Nat.mul_add,Nat.mul_one] at this
    rw [if_pos c2,if_neg (by omega),if_pos (by omega)]
   ·have:x=y:=by omega
    subst this
    rw [if_neg c2]
    simp only [Nat.add_lt_add_iff_right]
def canB (m:Nat) (f:Nat→Nat→AV):Bool:=okB m f&&decide (rowOf m f=toL (vL (rowOf m f)))
theorem canB_enc (n:Nat):canB (toL n).length (lim (toL n))=true:=by
 unfold canB
 rw [okB_enc,rowOf_enc,vL_toL]
 simp
def cmpOk (w:Bool) (m n:Nat) (f g:Nat→Nat→AV) (i:Int):Bool:=
 okB m f&&okB n g&&decide (m=n)&&decide (-1≤i)&&decide (i < m)&&decide (m≤140737488355328)&&(decide (cmpD (rowOf m f) (rowOf n g) (i+1).toNat=0)==w)
def cmpL (w:Bool) (T:List AV) (H:Hp):Option (Bool×Ex×List AV×Hp):=
 match lget T 0,lget T 1,lget T 5,H with
 | .lst false 129 m f, .lst false 129 n g, .val (.int .i64 i), []=>bif T.length==43 then some (cmpOk w m n f g i,bif w then .exit 0 else .ret,bif w then slots 43 [] else slots 43 [(4, .val (.int .i64 (cmpD (rowOf m f) (rowOf n g) (i+1).toNat)))], []) else none
 | _,_,_,_=>none
theorem cmpL_ok (w:Bool) (T:List AV) (H:Hp) (e:Ex) (T':List AV) (H':Hp) (h:cmpL w T H=some (true,e,T',H')):V.Ends Tryz.prog false 0 0 (.loop (lb 107 [false,true,false,true,true])) T H e T' H':=by
 unfold cmpL at h
 split at h
 ·rename_i m f n g i h0 h1 h5
  rw [Bool.cond_eq_ite] at h
  split at h
  ·rename_i hlen
   rw [beq_iff_eq] at hlen
   simp only [Option.some.injEq,Prod.mk.injEq] at h
   obtain ⟨hok,rfl,rfl,rfl⟩:=h
   unfold cmpOk at hok
   simp only [Bool.and_eq_true,decide_eq_true_eq] at hok
   obtain ⟨⟨⟨⟨⟨⟨k1,k2⟩,rfl⟩,k4⟩,k5⟩,k6⟩,k7⟩:=hok
   have hl:=(cmp_loop (rowOf m f) (rowOf m g) m (i+1).toNat (by omega) k6).ends
   rw [show (((i+1).toNat:Nat):Int) - 1=i by omega] at hl
   have hl2:V.Ends Tryz.prog false 0 0 (.loop (lb 107 [false,true,false,true,true])) (shCmp (rowOf m f) (rowOf m g) m i) [] (bif w then .exit 0 else .ret) (bif w then slots 43 [] else slots 43 [(4, .val (.int .i64 (cmpD (rowOf m f) (rowOf m g) (i+1).toNat)))]) []:=by
    generalize cmpD (rowOf m f) (rowOf m g) (i+1).toNat=c at*
    unfold cmpE cmpT at hl
    cases w with
    | true=>
     have hc:c=0:=by simpa using k7
     rw [if_pos hc,if_pos hc] at hl
     exact hl
    | false=>
     have hc:c≠0:=by simpa using k7
     rw [if_neg hc,if_neg hc] at hl
     exact hl
   refine Ends.pre hl2 (fun α B w D ys hr=>slots_rel hlen (fun p hp y hy=> ?_) hr)
   simp only [List.mem_cons,List.not_mem_nil,or_false] at hp
   rcases hp with rfl | rfl | rfl
   ·rw [h0] at hy;exact row_norm cells129 k1 hy
   ·rw [h1] at hy;exact row_norm cells129 k2 hy
   ·rw [h5] at hy;exact hy
  ·cases h
 ·cases h
def ELc (w:Bool):Env:= ⟨noC,fun _=>false,addL 107 [false,true,false,true,true] [0,1,5] (cmpL w) noL⟩
theorem ELc_ok (w:Bool):LoopsOk Tryz.prog (ELc w):=(LOk.none.add2 cmp_body (cmpL_ok w)).ok
theorem cmp_call (w:Bool) (zs us:List Int) (m n:Nat):callA Tryz.prog (ELc w) 10 10 107 [.lst false 129 m (lim zs), .lst false 129 n (lim us)]=
  (bif !decide ((m:Int)=n) then bif decide ((m:Int) < n) then some (.val (.int .i64 (-1))) else some (.val (.int .i64 1)) else bif inR .i64 ((m:Int) - 1) then bif cmpOk w m n (lim zs) (lim us) ((m:Int) - 1) then (match w with | true=>some (.val (.int .i64 0)) | false=>some (.val (.int .i64 (cmpD (rowOf m (lim zs)) (rowOf n (lim us)) ((m:Int) - 1+1).toNat)))) else none else none):=by
 cases w <;> kernel_rfl
def compareC (args:List AV):Option (Bool×AV):=match args with
 | [.lst _ 129 m f, .lst _ 129 n g]=>some (canB m f&&canB n g&&decide (m≤140737488355328)&&decide (n≤140737488355328), .val (.int .i64 (cmpN (vL (rowOf m f)) (vL (rowOf n g)))))
 | _=>none
theorem compare_entry:Entry Tryz.prog 107 compareC:=by
 intro args r hr
 unfold compareC at hr
 split at hr
 ·rename_i fl1 m f fl2 n g
  simp only [Option.some.injEq,Prod.mk.injEq,Bool.and_eq_true,decide_eq_true_eq] at hr
  obtain ⟨⟨⟨⟨hc1,hc2⟩,hm⟩,hn⟩,rfl⟩:=hr
  unfold canB at hc1 hc2
  rw [Bool.and_eq_true,decide_eq_true_eq] at hc1 hc2
  have l1:=rowOf_len m f
  have l2:=rowOf_len n g
  have r1:rowOf m (lim (rowOf m f))=rowOf m f:=by rw [rowOf_lim _ (by omega),List.take_of_length_le (by omega)]
  have r2:rowOf n (lim (rowOf n g))=rowOf n g:=by rw [rowOf_lim _ (by omega),List.take_of_length_le (by omega)]
  have o1:=(okB_iff m f).1 hc1.1
  have o2:=(okB_iff n g).1 hc2.1
  have b1:okB m (lim (rowOf m f))=true:=by rw [okB_iff,r1];exact o1
  have b2:okB n (lim (rowOf n g))=true:=by rw [okB_iff,r2];exact o2
  have key:∃ w v,callA Tryz.prog (ELc w) 10 10 107 [.lst false 129 m (lim (rowOf m f)), .lst false 129 n (lim (rowOf n g))]=some v∧v= .val (.int .i64 (cmpN (vL (rowOf m f)) (vL (rowOf n g)))):=by
   by_cases hmn:m=n
   ·subst hmn
    have hD:=cmpD_eq o1 o2 m (by omega) (by omega)
    rw [List.take_of_length_le (by omega),List.take_of_length_le (by omega)] at hD
    have hcall:=cmp_call (decide (cmpD (rowOf m f) (rowOf m g) m=0)) (rowOf m f) (rowOf m g) m m
    have e1:((m:Int) - 1+1).toNat=m:=by omega
    have hk:cmpOk (decide (cmpD (rowOf m f) (rowOf m g) m=0)) m m (lim (rowOf m f)) (lim (rowOf m g)) ((m:Int) - 1)=true:=by
     unfold cmpOk
     rw [b1,b2,r1,r2,e1,decide_eq_true (show (-1:Int)≤(m:Int) - 1 by omega),decide_eq_true (show ((m:Int) - 1) < (m:Int) by omega),decide_eq_true hm]
     simp
    rw [hk,r1,r2,e1,i64_ok (by omega) (by omega)] at hcall
    simp only [decide_true,Bool.not_true,cond] at hcall
    by_cases h0:cmpD (rowOf m f) (rowOf m g) m=0
    ·rw [decide_eq_true h0] at hcall
     exact ⟨_,_,hcall,by rw [← hD,h0]⟩
    ·rw [decide_eq_false h0] at hcall
     exact ⟨_,_,hcall,by rw [← hD]⟩
   ·have hcall:=cmp_call true (rowOf m f) (rowOf n g) m n
    rw [decide_eq_false (show ¬ (m:Int)=n by omega)] at hcall
    have e1:(toL (vL (rowOf m f))).length=m:=by rw [← hc1.2,l1]
    have e2:(toL (vL (rowOf n g))).length=n:=by rw [← hc2.2,l2]
    by_cases h2:(m:Int) < n
    ·rw [decide_eq_true h2] at hcall
     refine ⟨_,_,hcall, ?_⟩
     have:=le_of_len_toL (show (toL (vL (rowOf m f))).length < (toL (vL (rowOf n g))).length by omega)
     have h3:=lt_of_len_toL (Nat.le_refl (toL (vL (rowOf m f))).length)
     unfold cmpN
     rw [if_pos (by omega)]
    ·rw [decide_eq_false h2] at hcall
     refine ⟨_,_,hcall, ?_⟩
     have:=le_of_len_toL (show (toL (vL (rowOf n g))).length < (toL (vL (rowOf m f))).length by omega)
     have h3:=lt_of_len_toL (Nat.le_refl (toL (vL (rowOf n g))).length)
     unfold cmpN
     rw [if_neg (by omega),if_pos (by omega)]
  obtain ⟨w,v,hv,rfl⟩:=key
  intro B wd xs hB hx
  refine callA_sound (meets_none _) (ELc_ok w) mixed (by kernel_rfl) hv B wd xs hB ?_
  obtain ⟨y,zs,hxs,q1,q2⟩:=hx
  obtain ⟨y2,zs2,rfl,q3,q4⟩:=q2
  rw [hxs]
  exact ⟨y,_,rfl,lst_flag (row_norm cells129 hc1.1 q1),y2,zs2,rfl,lst_flag (row_norm cells129 hc2.1 q3),q4⟩
 ·cases hr
end
end Go.Proofs.YtamcpiicmfielaaGreat.L
namespace Go.Proofs.YtamcpiicmfielaaGreat.L
open Go Go.V Go.RowKit Go.Proofs.YtamcpiicmfielaaGreat.Sp Go.Proofs.YtamcpiicmfielaaGreat.F Go.Proofs.YtamcpiicmfielaaGreatW.PrintWords
open Go.Proofs (Tryz.prog)
noncomputable section
def shLoad (s:ByteArray) (m:Nat) (n i:Int):List AV:=slots 41 [(0, .val (.string s)),(3, .sl false 129 0 0 m),(15, .val (.int .i64 n)),(16, .val (.int .i64 i))]
def hpLoad (zs:List Int):Hp:= [.row (.ints .u32 zs) 129 .live]
abbrev pLoad:List Bool:= [false,true,false,true,true,true]
theorem load_body:subC Tryz.prog 106 pLoad=some (.loop (lb 106 pLoad)):=by kernel_rfl
theorem load_code:subC Tryz.prog 106 (false :: pLoad)=some (lb 106 pLoad):=by kernel_rfl
theorem load_round (s:ByteArray) (zs:List Int) (m:Nat) (n i:Int):roundA Tryz.prog EL0 106 [0,3,15,16] (lb 106 pLoad) (false :: pLoad) (shLoad s m n i) (hpLoad zs)=
  (bif decide (i < n) then bif inR .i64 ((s.size:Int) - 1) then bif inR .i64 ((s.size:Int) - 1 - i) then bif inR .i64 (i.tdiv 4) then
   bif decide (0≤i.tdiv 4)&&decide (i.tdiv 4 < m) then bif decide (0+(i.tdiv 4).toNat*1 < zs.length) then bif decide (0≤(s.size:Int) - 1 - i)&&decide ((s.size:Int) - 1 - i < s.size) then
   bif inR .u32 (byteAt s ((s.size:Int) - 1 - i).toNat) then bif inR .i64 (8*i.tmod 4) then bif decide (8*i.tmod 4 < 0) then none else
   bif decide (0≤i.tdiv 4)&&decide (i.tdiv 4 < m) then bif decide (0+(i.tdiv 4).toNat*1 < zs.length) then bif inR .i64 (i+1) then
   some (.normal,shLoad s m n (i+1),hpLoad (zs.set (0+(i.tdiv 4).toNat*1) (bitI .or .u32 (zs.getD (0+(i.tdiv 4).toNat*1) 0) (IntKind.u32.wrap (byteAt s ((s.size:Int) - 1 - i).toNat*2 ^ min (8*i.tmod 4).toNat IntKind.u32.bits)))))
   else none else none else none else none else none else none else none else none else none else none else none else some (.exit 0,shLoad s m n i,hpLoad zs)):=by kernel_rfl
theorem load_step {s:ByteArray} {zs:List Int} {m:Nat} {n i:Int} {e:Ex} {T:List AV} {H:Hp} (h:roundA Tryz.prog EL0 106 [0,3,15,16] (lb 106 pLoad) (false :: pLoad) (shLoad s m n i) (hpLoad zs)=some (e,T,H)):V.Ends Tryz.prog false 0 0 (lb 106 pLoad) (shLoad s m n i) (hpLoad zs) e T H:=
 round_ends (meets_none _) loops_none mixed load_code h
def load1 (s:ByteArray) (i:Nat) (out:List Int):List Int:=out.set (i / 4) (bitI .or .u32 (out.getD (i / 4) 0) (IntKind.u32.wrap (byteAt s (s.size - 1 - i)*2 ^ min (8*(i % 4)) IntKind.u32.bits)))
def loadTo (s:ByteArray):Nat→Nat→List Int→List Int
 | 0,_,out=>out
 | d+1,i,out=>loadTo s d (i+1) (load1 s i out)
theorem byteAt_lt (s:ByteArray) (i:Nat):0≤byteAt s i∧byteAt s i < 256:=by
 unfold byteAt
 have:=(s.data.toList.getD i 0).toNat_lt
 omega
theorem load_loop (s:ByteArray) (m:Nat) (hs:s.size≤140737488355328) (hm:m=(s.size+3) / 4):∀ (d i:Nat) (out:List Int),i+d=s.size→out.length=m→LoopTo Tryz.prog (lb 106 pLoad) (shLoad s m s.size i) (hpLoad out) (.exit 0) (shLoad s m s.size s.size) (hpLoad (loadTo s d i out))
 | 0,i,out,hi,hl=>by
  have hr:=load_round s out m s.size i
  have:i=s.size:=by omega
  subst this
  rw [decide_eq_false (show ¬ ((s.size:Int) < s.size) by omega)] at hr
  exact .last (load_step hr) (by intro h;cases h)
 | d+1,i,out,hi,hl=>by
  have hr:=load_round s out m s.size i
  have e1:(i:Int).tdiv 4=((i / 4:Nat):Int):=ld2 i
  have e2:(i:Int).tmod 4=((i % 4:Nat):Int):=ld3 i
  have e3:(s.size:Int) - 1 - i=((s.size - 1 - i:Nat):Int):=by omega
  have e4:8*((i % 4:Nat):Int)=((8*(i % 4):Nat):Int):=by omega
  have hb:=byteAt_lt s (s.size - 1 - i)
  rw [e1,e2,e3,e4,Int.toNat_natCast,Int.toNat_natCast,Int.toNat_natCast,Nat.zero_add,Nat.mul_one] at hr
  rw [decide_eq_true (show (i:Int) < s.size by omega),i64_ok (show -9223372036854775808≤(s.size:Int) - 1 by omega) (by omega),i64_ok (show -9223372036854775808≤((s.size - 1 - i:Nat):Int) by omega) (by omega),i64_ok (show -9223372036854775808≤((i / 4:Nat):Int) by omega) (by omega),i64_ok (show -9223372036854775808≤((8*(i % 4):Nat):Int) by omega) (by omega),i64_ok (show -9223372036854775808≤(i:Int)+1 by omega) (by omega),
   decide_eq_true (show (0:Int)≤((i / 4:Nat):Int) by omega),decide_eq_true (show ((i / 4:Nat):Int) < (m:Int) by omega),decide_eq_true (show i / 4 < out.length by omega),decide_eq_true (show (0:Int)≤((s.size - 1 - i:Nat):Int) by omega),decide_eq_true (show ((s.size - 1 - i:Nat):Int) < (s.size:Int) by omega),decide_eq_false (show ¬ (((8*(i % 4):Nat):Int) < 0) by omega),
   show inR .u32 (byteAt s (s.size - 1 - i))=true by unfold inR;rw [Bool.and_eq_true,decide_eq_true_eq,decide_eq_true_eq];exact ⟨hb.1,by have:IntKind.u32.max=4294967295:=rfl;omega⟩] at hr
  refine .more (load_step hr) ?_
  have:=load_loop s m hs hm d (i+1) (load1 s i out) (by omega) (by unfold load1;rw [List.length_set];exact hl)
  rw [show ((i+1:Nat):Int)=(i:Int)+1 by omega] at this
  exact this
theorem load_l0 (s:ByteArray) (hs:s.size≤140737488355328):∀ (d k i:Nat) (out:List Int),i+d=s.size→d < k→out.length=(s.size+3) / 4→bigint_load.l0 k s out s.size i=some (loadTo s d i out)
 | 0,k,i,out,hi,hk,hl=>by
  obtain ⟨k,rfl⟩:∃ m,k=m+1:= ⟨k - 1,by omega⟩
  rw [bigint_load.l0,if_neg (by omega)]
  rfl
 | d+1,k,i,out,hi,hk,hl=>by
  obtain ⟨k,rfl⟩:∃ m,k=m+1:= ⟨k - 1,by omega⟩
  rw [bigint_load.l0,ld2,ld3,ld4 i (by omega),ld1 s.size i (by omega) (by omega),ld5,ld6 i (by omega)]
  rw [if_pos (by omega),if_pos (by omega),if_pos (by omega),if_pos (by omega),if_pos (by omega),if_pos (by omega)]
  have hb:=byteAt_bt s (s.size - 1 - i) (by omega)
  have hb2:=byteAt_lt s (s.size - 1 - i)
  rw [← hb,show byteAt s (s.size - 1 - i) % 4294967296=byteAt s (s.size - 1 - i) by omega]
  have hst:out.set (((i / 4:Nat):Int)).toNat (Go.bits .or .u32 (rd out ((i / 4:Nat):Int)) (shl .u32 (byteAt s (s.size - 1 - i)) ((8*(i % 4):Nat):Int)))=load1 s i out:=by
   unfold load1 shl rd
   rw [Int.toNat_natCast,Int.toNat_natCast]
   rfl
  rw [hst]
  exact load_l0 s hs d k (i+1) _ (by omega) (by omega) (by unfold load1;rw [List.length_set];exact hl)
theorem loadTo_spec (s:ByteArray) (hs:s.size≤140737488355328):∃ r,loadTo s s.size 0 (List.replicate ((s.size+3) / 4) 0)=r∧okL r∧r.length=(s.size+3) / 4∧vL r=vS s:=by
 obtain ⟨r,h1,h2,h3,h4⟩:=load_l s hs s.size (s.size+1) 0 (List.replicate ((s.size+3) / 4) 0) (by omega) (by omega) (okL_replicate _) (by simp) (by
  rw [vL_replicate,Nat.sub_zero,List.drop_of_length_le (by rw [len_data];exact Nat.le_refl _)];rfl)
 have:=load_l0 s hs s.size (s.size+1) 0 (List.replicate ((s.size+3) / 4) 0) (by omega) (by omega) (by simp)
 rw [this] at h1
 cases h1
 exact ⟨_,rfl,h2,h3,h4⟩
def loadOk (s:ByteArray) (m:Nat) (n:Int) (zs:List Int):Bool:=decide (n=s.size)&&decide (s.size≤140737488355328)&&decide (m=(s.size+3) / 4)&&decide (zs.length=m)
def loadL (T:List AV) (H:Hp):Option (Bool×Ex×List AV×Hp):=
 match lget T 0,lget T 3,lget T 15,lget T 16,H with
 | .val (.string s), .sl false 129 0 0 m, .val (.int .i64 n), .val (.int .i64 0), [.row (.ints .u32 zs) 129 .live]=>bif T.length==41 then some (loadOk s m n zs, .exit 0,shLoad s m s.size s.size,hpLoad (loadTo s s.size 0 zs)) else none
 | _,_,_,_,_=>none
theorem loadL_ok (T:List AV) (H:Hp) (e:Ex) (T':List AV) (H':Hp) (h:loadL T H=some (true,e,T',H')):V.Ends Tryz.prog false 0 0 (.loop (lb 106 pLoad)) T H e T' H':=by
 unfold loadL at h
 split at h
 ·rename_i s m n zs h0 h3 h15 h16
  rw [Bool.cond_eq_ite] at h
  split at h
  ·rename_i hlen
   rw [beq_iff_eq] at hlen
   simp only [Option.some.injEq,Prod.mk.injEq] at h
   obtain ⟨hok,rfl,rfl,rfl⟩:=h
   unfold loadOk at hok
   simp only [Bool.and_eq_true,decide_eq_true_eq] at hok
   obtain ⟨⟨⟨rfl,k2⟩,k3⟩,k4⟩:=hok
   refine Ends.pre (load_loop s m k2 k3 s.size 0 zs (by omega) k4).ends (fun α B w D ys hr=>slots_rel hlen (fun p hp y hy=> ?_) hr)
   simp only [List.mem_cons,List.not_mem_nil,or_false] at hp
   rcases hp with rfl | rfl | rfl | rfl
   ·rw [h0] at hy;exact hy
   ·rw [h3] at hy;exact hy
   ·rw [h15] at hy;exact hy
   ·rw [h16] at hy;exact hy
  ·cases h
 ·cases h
def stripG (σ:ByteArray→ByteArray) (args:List AV):Option (Bool×AV):=match args with | [.val (.string s)]=>some (true, .val (.string (σ s))) | _=>none
def ELl (σ:ByteArray→ByteArray):Env:= ⟨addC 139 (stripG σ) noC,fun _=>false,addL 106 pLoad [0,3,15,16] loadL noL⟩
theorem ELl_C:Meets Tryz.prog (ELl fun s=>magOf (vS s)).C:=(meets_none _).add strip_entry
theorem ELl_ok (σ:ByteArray→ByteArray):LoopsOk Tryz.prog (ELl σ):=(LOk.none.add2 load_body loadL_ok).ok
theorem load_call (σ:ByteArray→ByteArray) (s:ByteArray):callA Tryz.prog (ELl σ) 10 10 106 [.val (.string s)]=
  (bif inR .i64 (((σ s).size:Int)+4) then bif inR .i64 (((σ s).size:Int)+4 - 1) then bif inR .i64 ((((σ s).size:Int)+4 - 1).tdiv 4) then
   bif decide (0≤(((σ s).size:Int)+4 - 1).tdiv 4)&&decide ((((σ s).size:Int)+4 - 1).tdiv 4≤(((σ s).size:Int)+4 - 1).tdiv 4)&&decide ((4:Int)*(((σ s).size:Int)+4 - 1).tdiv 4≤281474976710656)&&decide ((((σ s).size:Int)+4 - 1).tdiv 4≤9223372036854775807) then
   bif loadOk (σ s) ((((σ s).size:Int)+4 - 1).tdiv 4).toNat ((σ s).size:Int) (List.replicate ((((σ s).size:Int)+4 - 1).tdiv 4).toNat 0) then
   bif decide (0+((((σ s).size:Int)+4 - 1).tdiv 4).toNat*1≤(loadTo (σ s) (σ s).size 0 (List.replicate ((((σ s).size:Int)+4 - 1).tdiv 4).toNat 0)).length) then
   some (.lst false 129 ((((σ s).size:Int)+4 - 1).tdiv 4).toNat (lim (loadTo (σ s) (σ s).size 0 (List.replicate ((((σ s).size:Int)+4 - 1).tdiv 4).toNat 0))))
   else none else none else none else none else none else none):=by kernel_rfl
theorem canon_load (n:Nat) {r:List Int} (h2:okL r) (h3:r.length=((magOf n).size+3) / 4) (h4:vL r=n):r=toL n:=by
 rw [← h4]
 apply eq_toL h2
 intro hne
 rw [h4,h3]
 have hpos:0 < (magOf n).size:=by
  rcases Nat.eq_zero_or_pos (magOf n).size with h | h
  ·rw [h] at h3;exact absurd (List.length_eq_zero_iff.1 h3) hne
  ·exact h
 have h5:256 ^ ((magOf n).size - 1)≤n:=by rw [size_magOf] at hpos ⊢;exact le_of_len_toB (by omega)
 refine Nat.le_trans ?_ h5
 rw [show (4294967296:Nat)=256 ^ 4 from rfl,← Nat.pow_mul]
 exact Nat.pow_le_pow_right (by decide) (by omega)
def loadC (args:List AV):Option (Bool×AV):=match args with | [.val (.string s)]=>some (decide (s.size≤140737488355328),encL (vS s)) | _=>none
theorem load_entry:Entry Tryz.prog 106 loadC:=by
 refine entry_to (E:=ELl fun s=>magOf (vS s)) (u:=10) (d:=10) ELl_C (ELl_ok _) (by kernel_rfl) (fun args r h=> ?_)
 unfold loadC at h
 split at h
 ·rename_i s
  simp only [Option.some.injEq,Prod.mk.injEq,decide_eq_true_eq] at h
  obtain ⟨hs,rfl⟩:=h
  have hcall:=load_call (fun s=>magOf (vS s)) s
  have hsz:(magOf (vS s)).size≤s.size:=size_magOf_le (vS_lt s)
  obtain ⟨r,h1,h2,h3,h4⟩:=loadTo_spec (magOf (vS s)) (by omega)
  rw [vS_magOf] at h4
  have hc:=canon_load (vS s) h2 h3 h4
  generalize magOf (vS s)=t at*
  have hq:((t.size:Int)+4 - 1).tdiv 4=(((t.size+3) / 4:Nat):Int):=by
   rw [show (t.size:Int)+4 - 1=((t.size+3:Nat):Int) by omega]
   rw [Int.tdiv_eq_ediv_of_nonneg (by omega)]
   rfl
  rw [hq,Int.toNat_natCast,h1] at hcall
  have hok:loadOk t ((t.size+3) / 4) (t.size:Int) (List.replicate ((t.size+3) / 4) 0)=true:=by
   unfold loadOk
   simp only [decide_true,List.length_replicate,Bool.and_true,Bool.true_and]
   exact decide_eq_true (by omega)
  rw [hok,i64_ok (show -9223372036854775808≤(t.size:Int)+4 by omega) (by omega),i64_ok (show -9223372036854775808≤(t.size:Int)+4 - 1 by omega) (by omega),i64_ok (show -9223372036854775808≤(((t.size+3) / 4:Nat):Int) by omega) (by omega),
   decide_eq_true (show (0:Int)≤(((t.size+3) / 4:Nat):Int) by omega),decide_eq_true (show (((t.size+3) / 4:Nat):Int)≤(((t.size+3) / 4:Nat):Int) by omega),decide_eq_true (show (4:Int)*(((t.size+3) / 4:Nat):Int)≤281474976710656 by omega),decide_eq_true (show (((t.size+3) / 4:Nat):Int)≤9223372036854775807 by omega),
   decide_eq_true (show 0+(t.size+3) / 4*1≤r.length by omega)] at hcall
  refine ⟨_,_,hcall,fun B w ys hr=>hr,fun B w y hr=> ?_⟩
  unfold encL
  rw [← hc,h3]
  exact hr
 ·cases h
end
end Go.Proofs.YtamcpiicmfielaaGreat.L
namespace Go.Proofs.YtamcpiicmfielaaGreat.L
open Go Go.V Go.RowKit Go.Proofs.YtamcpiicmfielaaGreat.Sp Go.Proofs.YtamcpiicmfielaaGreat.F Go.Proofs.YtamcpiicmfielaaGreatW.PrintWords
open Go.Proofs (Tryz.prog)
noncomputable section
abbrev pStore:List Bool:= [false,true,false,true,true]
def shStore (zs:List Int) (m l:Nat) (i:Int):List AV:=slots 41 [(0, .lst false 129 m (lim zs)),(3, .sl false 5 0 0 l),(4, .val (.int .i64 i))]
def shStore0 (zs:List Int) (m:Nat) (i:Int):List AV:=slots 41 [(0, .lst false 129 m (lim zs)),(3, .val (.slice none 0 0)),(4, .val (.int .i64 i))]
def hpStore (bs:List Int):Hp:= [.row (.ints .u8 bs) 5 .live]
def bytes4 (z:Int):List Int:= [IntKind.u8.wrap (z.fdiv (2 ^ min (Int.toNat 24) IntKind.u32.bits)),IntKind.u8.wrap (z.fdiv (2 ^ min (Int.toNat 16) IntKind.u32.bits)),IntKind.u8.wrap (z.fdiv (2 ^ min (Int.toNat 8) IntKind.u32.bits)),IntKind.u8.wrap z]
theorem store_body:subC Tryz.prog 141 pStore=some (.loop (lb 141 pStore)):=by kernel_rfl
theorem store_code:subC Tryz.prog 141 (false :: pStore)=some (lb 141 pStore):=by kernel_rfl
theorem store_round (zs:List Int) (m l:Nat) (i:Int) (bs:List Int):roundA Tryz.prog EL0 141 [0,3,4] (lb 141 pStore) (false :: pStore) (shStore zs m l i) (hpStore bs)=
  (bif decide (0≤i) then bif decide (0≤i)&&decide (i < m) then bif decide (0≤i)&&decide (i < m) then bif decide (0≤i)&&decide (i < m) then bif decide (0≤i)&&decide (i < m) then
   bif decide (l*1≤bs.length)&&roomA Tryz.prog (l+4) 5&&true then bif inR .i64 (i - 1) then some (.normal,shStore zs m (l+4) (i - 1),hpStore (bs.take (l*1) ++ bytes4 (zs.getD i.toNat 0)))
   else none else none else none else none else none else none else some (.exit 0,shStore zs m l i,hpStore bs)):=by kernel_rfl
theorem store_round0 (zs:List Int) (m:Nat) (i:Int):roundA Tryz.prog EL0 141 [0,3,4] (lb 141 pStore) (false :: pStore) (shStore0 zs m i) []=
  (bif decide (0≤i) then bif decide (0≤i)&&decide (i < m) then bif decide (0≤i)&&decide (i < m) then bif decide (0≤i)&&decide (i < m) then bif decide (0≤i)&&decide (i < m) then
   bif inR .i64 (i - 1) then some (.normal,shStore zs m 4 (i - 1),hpStore (bytes4 (zs.getD i.toNat 0)))
   else none else none else none else none else none else some (.exit 0,shStore0 zs m i, [])):=by kernel_rfl
theorem store_step {zs:List Int} {m l:Nat} {i:Int} {bs:List Int} {e:Ex} {T:List AV} {H:Hp} (h:roundA Tryz.prog EL0 141 [0,3,4] (lb 141 pStore) (false :: pStore) (shStore zs m l i) (hpStore bs)=some (e,T,H)):V.Ends Tryz.prog false 0 0 (lb 141 pStore) (shStore zs m l i) (hpStore bs) e T H:=
 round_ends (meets_none _) loops_none mixed store_code h
theorem store_step0 {zs:List Int} {m:Nat} {i:Int} {e:Ex} {T:List AV} {H:Hp} (h:roundA Tryz.prog EL0 141 [0,3,4] (lb 141 pStore) (false :: pStore) (shStore0 zs m i) []=some (e,T,H)):V.Ends Tryz.prog false 0 0 (lb 141 pStore) (shStore0 zs m i) [] e T H:=
 round_ends (meets_none _) loops_none mixed store_code h
def storeTo (zs:List Int):Nat→List Int→List Int
 | 0,bs=>bs
 | d+1,bs=>storeTo zs d (bs ++ bytes4 (zs.getD d 0))
theorem storeTo_len (zs:List Int):∀ d bs,(storeTo zs d bs).length=bs.length+4*d
 | 0,bs=>rfl
 | d+1,bs=>by unfold storeTo;rw [storeTo_len zs d,List.length_append];simp [bytes4];omega
theorem room5 (n:Nat) (h:n≤140737488355328):roomA Tryz.prog n 5=true:=by
 unfold roomA
 rw [Bool.and_eq_true,decide_eq_true_eq,decide_eq_true_eq,show Tryz.prog.bytesOf 5=1 by kernel_rfl]
 omega
theorem store_loop (zs:List Int) (m:Nat) (hm:m≤17592186044416):∀ (d:Nat) (bs:List Int),d≤m→bs.length+4*d≤140737488355328→LoopTo Tryz.prog (lb 141 pStore) (shStore zs m bs.length ((d:Int) - 1)) (hpStore bs) (.exit 0) (shStore zs m (bs.length+4*d) (-1)) (hpStore (storeTo zs d bs))
 | 0,bs,hd,hl=> .last (store_step (by rw [store_round];rfl)) (by intro h;cases h)
 | d+1,bs,hd,hl=>by
  have hr:=store_round zs m bs.length (d:Int) bs
  rw [decide_eq_true (show (0:Int)≤(d:Int) by omega),decide_eq_true (show (d:Int) < (m:Int) by omega),i64_ok (show -9223372036854775808≤(d:Int) - 1 by omega) (by omega),decide_eq_true (show bs.length*1≤bs.length by omega),room5 _ (by omega),Nat.mul_one,List.take_length,Int.toNat_natCast] at hr
  rw [show (((d+1:Nat):Int) - 1)=(d:Int) by omega]
  have:=store_loop zs m hm d (bs ++ bytes4 (zs.getD d 0)) (by omega) (by rw [List.length_append];simp [bytes4];omega)
  rw [List.length_append,show (bytes4 (zs.getD d 0)).length=4 from rfl,show bs.length+4+4*d=bs.length+4*(d+1) by omega] at this
  exact .more (store_step hr) this
def storeOk (w:Bool) (m:Nat) (f:Nat→Nat→AV) (i:Int):Bool:=okB m f&&decide (i=(m:Int) - 1)&&decide (m≤17592186044416)&&(decide (m=0)==w)
def storeL (w:Bool) (T:List AV) (H:Hp):Option (Bool×Ex×List AV×Hp):=
 match lget T 0,lget T 3,lget T 4,H with
 | .lst false 129 m f, .val (.slice none 0 0), .val (.int .i64 i), []=>bif T.length==41 then some (storeOk w m f i, .exit 0,bif w then shStore0 (rowOf m f) m (-1) else shStore (rowOf m f) m (4*m) (-1),bif w then [] else hpStore (storeTo (rowOf m f) m [])) else none
 | _,_,_,_=>none
theorem storeL_ok (w:Bool) (T:List AV) (H:Hp) (e:Ex) (T':List AV) (H':Hp) (h:storeL w T H=some (true,e,T',H')):V.Ends Tryz.prog false 0 0 (.loop (lb 141 pStore)) T H e T' H':=by
 unfold storeL at h
 split at h
 ·rename_i m f i h0 h3 h4
  rw [Bool.cond_eq_ite] at h
  split at h
  ·rename_i hlen
   rw [beq_iff_eq] at hlen
   simp only [Option.some.injEq,Prod.mk.injEq] at h
   obtain ⟨hok,rfl,rfl,rfl⟩:=h
   unfold storeOk at hok
   simp only [Bool.and_eq_true,decide_eq_true_eq] at hok
   obtain ⟨⟨⟨k1,rfl⟩,k3⟩,k4⟩:=hok
   have hl:V.Ends Tryz.prog false 0 0 (.loop (lb 141 pStore)) (shStore0 (rowOf m f) m ((m:Int) - 1)) [] (.exit 0) (bif w then shStore0 (rowOf m f) m (-1) else shStore (rowOf m f) m (4*m) (-1)) (bif w then [] else hpStore (storeTo (rowOf m f) m [])):=by
    generalize rowOf m f=zs
    cases w with
    | true=>
     have hm:m=0:=by simpa using k4
     subst hm
     exact (LoopTo.last (store_step0 (by rw [store_round0];rfl)) (by intro h;cases h)).ends
    | false=>
     have hm:m≠0:=by simpa using k4
     obtain ⟨d,rfl⟩:∃ d,m=d+1:= ⟨m - 1,by omega⟩
     have hr:=store_round0 zs (d+1) (d:Int)
     rw [decide_eq_true (show (0:Int)≤(d:Int) by omega),decide_eq_true (show (d:Int) < ((d+1:Nat):Int) by omega),i64_ok (show -9223372036854775808≤(d:Int) - 1 by omega) (by omega),Int.toNat_natCast] at hr
     rw [show (((d+1:Nat):Int) - 1)=(d:Int) by omega]
     have:=store_loop zs (d+1) k3 d (bytes4 (zs.getD d 0)) (by omega) (by simp [bytes4];omega)
     rw [show (bytes4 (zs.getD d 0)).length=4 from rfl,show 4+4*d=4*(d+1) by omega] at this
     exact (LoopTo.more (store_step0 hr) this).ends
   refine Ends.pre hl (fun α B w D ys hr=>slots_rel hlen (fun p hp y hy=> ?_) hr)
   simp only [List.mem_cons,List.not_mem_nil,or_false] at hp
   rcases hp with rfl | rfl | rfl
   ·rw [h0] at hy;exact row_norm cells129 k1 hy
   ·rw [h3] at hy;exact hy
   ·rw [h4] at hy;exact hy
  ·cases h
 ·cases h
def ELs (w:Bool) (σ:ByteArray→ByteArray):Env:= ⟨addC 139 (stripG σ) noC,fun _=>false,addL 141 pStore [0,3,4] (storeL w) noL⟩
theorem ELs_C (w:Bool):Meets Tryz.prog (ELs w fun s=>magOf (vS s)).C:=(meets_none _).add strip_entry
theorem ELs_ok (w:Bool) (σ:ByteArray→ByteArray):LoopsOk Tryz.prog (ELs w σ):=(LOk.none.add2 store_body (storeL_ok w)).ok
theorem store_call0 (σ:ByteArray→ByteArray) (zs:List Int) (m:Nat):callA Tryz.prog (ELs true σ) 10 10 141 [.lst false 129 m (lim zs)]=
  (bif inR .i64 ((m:Int) - 1) then bif storeOk true m (lim zs) ((m:Int) - 1) then some (.val (.string (σ (ofBytes [])))) else none else none):=by kernel_rfl
theorem store_call1 (σ:ByteArray→ByteArray) (zs:List Int) (m:Nat):callA Tryz.prog (ELs false σ) 10 10 141 [.lst false 129 m (lim zs)]=
  (bif inR .i64 ((m:Int) - 1) then bif storeOk false m (lim zs) ((m:Int) - 1) then bif decide (0+4*m*1≤(storeTo (rowOf m (lim zs)) m []).length) then some (.val (.string (σ (ofBytes ((storeTo (rowOf m (lim zs)) m []).take (4*m*1)))))) else none else none else none):=by kernel_rfl
theorem u8_wrap (z:Int):IntKind.u8.wrap z=z % 256:=by
 unfold IntKind.wrap
 simp [IntKind.bits,IntKind.signed]
theorem bytes4_val {z:Int} (h0:0≤z) (h1:z < 4294967296):vB ((bytes4 z).map fun z=>UInt8.ofNat z.toNat)=z.toNat:=by
 obtain ⟨n,rfl⟩:=Int.eq_ofNat_of_zero_le h0
 have hd:∀ k:Nat,(UInt8.ofNat (IntKind.u8.wrap (((n:Int)).fdiv ((k:Nat):Int))).toNat).toNat=n / k % 256:=by
  intro k
  rw [u8_wrap,Int.fdiv_eq_ediv_of_nonneg _ (by omega),← Int.natCast_ediv,UInt8.toNat_ofNat']
  omega
 have h3:=hd 16777216
 have h2:=hd 65536
 have h1':=hd 256
 have h0':(UInt8.ofNat (IntKind.u8.wrap (n:Int)).toNat).toNat=n % 256:=by
  rw [u8_wrap,UInt8.toNat_ofNat']
  omega
 have e:(bytes4 (n:Int))= [IntKind.u8.wrap ((n:Int).fdiv ((16777216:Nat):Int)),IntKind.u8.wrap ((n:Int).fdiv ((65536:Nat):Int)),IntKind.u8.wrap ((n:Int).fdiv ((256:Nat):Int)),IntKind.u8.wrap (n:Int)]:=rfl
 rw [e]
 simp only [List.map_cons,List.map_nil,vB_cons,vB_nil,List.length_cons,List.length_nil,h3,h2,h1',h0',Int.toNat_natCast]
 omega
theorem store_val {zs:List Int} (hok:okL zs):∀ (d:Nat) (bs:List Int),d≤zs.length→vB ((storeTo zs d bs).map fun z=>UInt8.ofNat z.toNat)=vB (bs.map fun z=>UInt8.ofNat z.toNat)*4294967296 ^ d+vL (zs.take d)
 | 0,bs,_=>by simp [storeTo,vL_nil]
 | d+1,bs,hd=>by
  have hlt:d < zs.length:=hd
  have hg:zs.getD d 0=zs[d]:=by rw [List.getD_eq_getElem?_getD,List.getElem?_eq_getElem hlt];rfl
  have ht:zs.take (d+1)=zs.take d ++ [zs[d]]:=by rw [List.take_add_one,List.getElem?_eq_getElem hlt];rfl
  have h0:=hok _ (List.getElem_mem hlt)
  unfold storeTo
  rw [store_val hok d _ (by omega),List.map_append,vB_append,hg,bytes4_val h0.1 h0.2,List.length_map,show (bytes4 zs[d]).length=4 from rfl,ht,vL_append,List.length_take,Nat.min_eq_left (by omega),vL_cons,vL_nil,show (256:Nat) ^ 4=4294967296 from rfl,Nat.pow_succ]
  simp only [Nat.mul_zero,Nat.add_zero,Nat.add_mul,Nat.mul_assoc,Nat.mul_comm (4294967296 ^ d)]
  rw [Nat.mul_comm 4294967296 (4294967296 ^ d)]
  omega
def storeC (args:List AV):Option (Bool×AV):=match args with | [.lst _ 129 m f]=>some (okB m f&&decide (m≤17592186044416), .val (.string (magOf (vL (rowOf m f))))) | _=>none
theorem vS_ofBytes (l:List Int):vS (ofBytes l)=vB (l.map fun z=>UInt8.ofNat z.toNat):=rfl
theorem store_entry:Entry Tryz.prog 141 storeC:=by
 intro args r h
 unfold storeC at h
 split at h
 ·rename_i fl m f
  simp only [Option.some.injEq,Prod.mk.injEq,Bool.and_eq_true,decide_eq_true_eq] at h
  obtain ⟨⟨hok,hm⟩,rfl⟩:=h
  have hl:=rowOf_len m f
  have hok2:=(okB_iff m f).1 hok
  have hrow:rowOf m (lim (rowOf m f))=rowOf m f:=by rw [rowOf_lim _ (by omega),List.take_of_length_le (by omega)]
  have hokr:okB m (lim (rowOf m f))=true:=by rw [okB_iff,hrow];exact hok2
  have key:∃ w,callA Tryz.prog (ELs w fun s=>magOf (vS s)) 10 10 141 [.lst false 129 m (lim (rowOf m f))]=some (.val (.string (magOf (vL (rowOf m f))))):=by
   by_cases h0:m=0
   ·refine ⟨true, ?_⟩
    have hcall:=store_call0 (fun s=>magOf (vS s)) (rowOf m f) m
    have hk:storeOk true m (lim (rowOf m f)) ((m:Int) - 1)=true:=by
     unfold storeOk
     rw [hokr,decide_eq_true hm,decide_eq_true h0]
     simp
    rw [hk,i64_ok (by omega) (by omega)] at hcall
    rw [hcall]
    have:rowOf m f= []:=List.length_eq_zero_iff.1 (by omega)
    rw [this]
    rfl
   ·refine ⟨false, ?_⟩
    have hcall:=store_call1 (fun s=>magOf (vS s)) (rowOf m f) m
    have hk:storeOk false m (lim (rowOf m f)) ((m:Int) - 1)=true:=by
     unfold storeOk
     rw [hokr,decide_eq_true hm,decide_eq_false h0]
     simp
    have hlen:=storeTo_len (rowOf m f) m []
    rw [List.length_nil,Nat.zero_add] at hlen
    rw [hk,hrow,i64_ok (by omega) (by omega),decide_eq_true (show 0+4*m*1≤(storeTo (rowOf m f) m []).length by omega),List.take_of_length_le (show (storeTo (rowOf m f) m []).length≤4*m*1 by omega)] at hcall
    rw [hcall]
    have hv:=store_val hok2 m [] (by omega)
    rw [List.take_of_length_le (by omega),List.map_nil,vB_nil,Nat.zero_mul,Nat.zero_add] at hv
    show some (AV.val (.string (magOf (vS (ofBytes (storeTo (rowOf m f) m []))))))=_
    rw [vS_ofBytes,hv]
  obtain ⟨w,hw⟩:=key
  intro B wd xs hB hx
  refine callA_sound (ELs_C w) (ELs_ok w _) mixed (by kernel_rfl) hw B wd xs hB ?_
  obtain ⟨y,zs,hxs,q1,q2⟩:=hx
  rw [hxs]
  exact ⟨y,zs,rfl,lst_flag (row_norm cells129 hok q1),q2⟩
 ·cases h
end
end Go.Proofs.YtamcpiicmfielaaGreat.L
namespace Go.Proofs.YtamcpiicmfielaaGreat.L
open Go Go.V Go.RowKit Go.Proofs.YtamcpiicmfielaaGreat.Sp Go.Proofs.YtamcpiicmfielaaGreat.F Go.Proofs.YtamcpiicmfielaaGreatW.PrintWords
open Go.Proofs (Tryz.prog)
noncomputable section
abbrev RowF:=Nat→(Nat→Nat→AV)→Nat→Nat→AV
def rowG (c:Nat→(Nat→Nat→AV)→Bool) (ν:Nat→(Nat→Nat→AV)→Nat) (φ:RowF) (args:List AV):Option (Bool×AV):=match args with | [.lst fl 129 m f]=>some (c m f, .lst false 129 (ν m f) (φ m f)) | _=>none
def strG (c:Nat→(Nat→Nat→AV)→Bool) (σ:Nat→(Nat→Nat→AV)→ByteArray) (args:List AV):Option (Bool×AV):=match args with | [.lst _ 129 m f]=>some (c m f, .val (.string (σ m f))) | _=>none
def trimCc (m:Nat) (f:Nat→Nat→AV):Bool:=okB m f&&decide (m≤140737488355328)
def trimNu (m:Nat) (f:Nat→Nat→AV):Nat:=(toL (vL (rowOf m f))).length
def trimPhi:RowF:=fun m f=>lim (toL (vL (rowOf m f)))
def storeCc (m:Nat) (f:Nat→Nat→AV):Bool:=okB m f&&decide (m≤17592186044416)
def storeSg (m:Nat) (f:Nat→Nat→AV):ByteArray:=magOf (vL (rowOf m f))
def ELp (c1:Nat→(Nat→Nat→AV)→Bool) (ν:Nat→(Nat→Nat→AV)→Nat) (φ:RowF) (c2:Nat→(Nat→Nat→AV)→Bool) (σ:Nat→(Nat→Nat→AV)→ByteArray):Env:= ⟨addC 140 (rowG c1 ν φ) (addC 141 (strG c2 σ) noC),fun _=>false,noL⟩
theorem ELp_C:Meets Tryz.prog (ELp trimCc trimNu trimPhi storeCc storeSg).C:=((meets_none _).add store_entry).add trim_entry
theorem pack_call (c1:Nat→(Nat→Nat→AV)→Bool) (ν:Nat→(Nat→Nat→AV)→Nat) (φ:RowF) (c2:Nat→(Nat→Nat→AV)→Bool) (σ:Nat→(Nat→Nat→AV)→ByteArray) (b:Bool) (fl:Bool) (m:Nat) (f:Nat→Nat→AV):callA Tryz.prog (ELp c1 ν φ c2 σ) 10 10 108 [.val (.bool b), .lst fl 129 m f]=
  (bif c1 m f then bif c2 (ν m f) (φ m f) then bif b then some (.agg [.val (.bool (!strEq (σ (ν m f) (φ m f)) ⟨#[]⟩)), .val (.string (σ (ν m f) (φ m f)))]) else some (.agg [.val (.bool false), .val (.string (σ (ν m f) (φ m f)))]) else none else none):=by kernel_rfl
theorem magOf_nil (n:Nat):strEq (magOf n) ⟨#[]⟩=decide (n=0):=by
 rw [strEq_nil]
 by_cases h:n=0
 ·subst h
  rw [decide_eq_true ((toList_nil _).2 (by rw [magOf_data];exact toB_zero))]
  rfl
 ·rw [decide_eq_false h,decide_eq_false]
  intro e
  rw [toList_nil] at e
  have:=vS_magOf n
  unfold vS at this
  rw [e,vB_nil] at this
  exact h this.symm
def encA (z:Int):AV:= .agg [.val (.bool (enc z).1), .val (.string (enc z).2)]
def packC (args:List AV):Option (Bool×AV):=match args with | [.val (.bool b), .lst _ 129 m f]=>some (okB m f&&decide (m≤17592186044416),encA (if b=true then -(vL (rowOf m f):Int) else (vL (rowOf m f):Int))) | _=>none
theorem pack_entry:Entry Tryz.prog 108 packC:=by
 refine entry_to (E:=ELp trimCc trimNu trimPhi storeCc storeSg) (u:=10) (d:=10) ELp_C loops_none (by kernel_rfl) (fun args r h=> ?_)
 unfold packC at h
 split at h
 ·rename_i b fl m f
  simp only [Option.some.injEq,Prod.mk.injEq,Bool.and_eq_true,decide_eq_true_eq] at h
  obtain ⟨⟨hok,hm⟩,rfl⟩:=h
  have hcall:=pack_call trimCc trimNu trimPhi storeCc storeSg b fl m f
  have hok2:=(okB_iff m f).1 hok
  have hlen:(toL (vL (rowOf m f))).length≤m:=by
   have:=len_toL_le (vL_lt hok2)
   rwa [rowOf_len] at this
  have k1:trimCc m f=true:=by unfold trimCc;rw [hok,decide_eq_true (show m≤140737488355328 by omega)];rfl
  have k2:storeCc (trimNu m f) (trimPhi m f)=true:=by unfold storeCc trimNu trimPhi;rw [okB_enc,decide_eq_true (show (toL (vL (rowOf m f))).length≤17592186044416 by omega)];rfl
  have k3:storeSg (trimNu m f) (trimPhi m f)=magOf (vL (rowOf m f)):=by unfold storeSg trimNu trimPhi;rw [rowOf_enc,vL_toL]
  rw [k1,k2,k3,magOf_nil] at hcall
  generalize vL (rowOf m f)=n at*
  have he:=enc_pack b n
  refine ⟨_,encA (if b=true then -(n:Int) else (n:Int)), ?_,fun B w ys hr=>hr,fun B w y hr=>hr⟩
  rw [hcall]
  unfold encA
  rw [← he]
  cases b with
  | true=>
   simp only [cond,Bool.true_and]
   by_cases h0:n=0 <;> simp [h0]
  | false=>rfl
 ·cases h
end
end Go.Proofs.YtamcpiicmfielaaGreat.L
namespace Go.Proofs.YtamcpiicmfielaaGreat.L
open Go Go.V Go.RowKit Go.Proofs.YtamcpiicmfielaaGreat.Sp Go.Proofs.YtamcpiicmfielaaGreat.F Go.Proofs.YtamcpiicmfielaaGreatW.PrintWords
open Go.Proofs (Tryz.prog)
noncomputable section
structure Sy where
 c47:ByteArray→Bool
 n47:ByteArray→Nat
 f47:ByteArray→Nat→Nat→AV
 c48:Bool→Nat→(Nat→Nat→AV)→Bool
 b48:Bool→Nat→(Nat→Nat→AV)→Bool
 s48:Bool→Nat→(Nat→Nat→AV)→ByteArray
 c50:Nat→(Nat→Nat→AV)→Nat→(Nat→Nat→AV)→Bool
 k50:Nat→(Nat→Nat→AV)→Nat→(Nat→Nat→AV)→Int
 s66:ByteArray→ByteArray
def loadG (S:Sy) (args:List AV):Option (Bool×AV):=match args with | [.val (.string s)]=>some (S.c47 s, .lst false 129 (S.n47 s) (S.f47 s)) | _=>none
def packG (S:Sy) (args:List AV):Option (Bool×AV):=match args with | [.val (.bool b), .lst _ 129 m f]=>some (S.c48 b m f, .agg [.val (.bool (S.b48 b m f)), .val (.string (S.s48 b m f))]) | _=>none
def compareG (S:Sy) (args:List AV):Option (Bool×AV):=match args with | [.lst _ 129 m f, .lst _ 129 n g]=>some (S.c50 m f n g, .val (.int .i64 (S.k50 m f n g))) | _=>none
def sy:Sy where
 c47 s:=decide (s.size≤140737488355328)
 n47 s:=(toL (vS s)).length
 f47 s:=lim (toL (vS s))
 c48 _ m f:=okB m f&&decide (m≤17592186044416)
 b48 b m f:=(enc (if b=true then -(vL (rowOf m f):Int) else (vL (rowOf m f):Int))).1
 s48 b m f:=(enc (if b=true then -(vL (rowOf m f):Int) else (vL (rowOf m f):Int))).2
 c50 m f n g:=canB m f&&canB n g&&decide (m≤140737488355328)&&decide (n≤140737488355328)
 k50 m f n g:=cmpN (vL (rowOf m f)) (vL (rowOf n g))
 s66 s:=magOf (vS s)
def CS (S:Sy):FuncId→List AV→Option (Bool×AV):=addC 106 (loadG S) (addC 108 (packG S) (addC 107 (compareG S) (addC 139 (stripG S.s66) noC)))
theorem CS_ok:Meets Tryz.prog (CS sy):=((((meets_none _).add strip_entry).add compare_entry).add pack_entry).add load_entry
def KS (g:FuncId):Bool:=g==108 ||g==107 ||g==140 ||g==141
def ES (S:Sy):Env:= ⟨CS S,KS,noL⟩
theorem len_limbs (s:ByteArray):(toL (vS s)).length≤s.size:=by
 refine len_toL_le (Nat.lt_of_lt_of_le (vS_lt s) ?_)
 exact Nat.pow_le_pow_left (by decide) _
theorem sy_load (s:ByteArray) (h:s.size≤17592186044416):sy.c47 s=true:=decide_eq_true (by omega)
theorem sy_pack (b:Bool) (n:Nat) (h:(toL n).length≤17592186044416):sy.c48 b (toL n).length (lim (toL n))=true:=by
 show (okB (toL n).length (lim (toL n))&&decide ((toL n).length≤17592186044416))=true
 rw [okB_enc,decide_eq_true h]
 rfl
theorem sy_agg (b:Bool) (n:Nat):AV.agg [.val (.bool (sy.b48 b (toL n).length (lim (toL n)))), .val (.string (sy.s48 b (toL n).length (lim (toL n))))]=encA (if b=true then -(n:Int) else (n:Int)):=by
 show AV.agg [.val (.bool (enc (if b=true then -(vL (rowOf (toL n).length (lim (toL n))):Int) else (vL (rowOf (toL n).length (lim (toL n))):Int))).1), .val (.string (enc (if b=true then -(vL (rowOf (toL n).length (lim (toL n))):Int) else (vL (rowOf (toL n).length (lim (toL n))):Int))).2)]=_
 rw [rowOf_enc,vL_toL]
 rfl
theorem neg_call (S:Sy) (b:Bool) (s:ByteArray):callA Tryz.prog (ES S) 10 10 121 [.agg [.val (.bool b), .val (.string s)]]=
  (bif S.c47 s then bif S.c48 (!b) (S.n47 s) (S.f47 s) then some (.agg [.val (.bool (S.b48 (!b) (S.n47 s) (S.f47 s))), .val (.string (S.s48 (!b) (S.n47 s) (S.f47 s)))]) else none else none):=by kernel_rfl
def negC (args:List AV):Option (Bool×AV):=match args with | [.agg [.val (.bool b), .val (.string s)]]=>some (decide (s.size≤17592186044416),encA (-(val b s))) | _=>none
theorem neg_entry:Entry Tryz.prog 121 negC:=by
 refine entry_to (E:=ES sy) (u:=10) (d:=10) CS_ok loops_none (by kernel_rfl) (fun args r h=> ?_)
 unfold negC at h
 split at h
 ·rename_i b s
  simp only [Option.some.injEq,Prod.mk.injEq,decide_eq_true_eq] at h
  obtain ⟨hs,rfl⟩:=h
  have hcall:=neg_call sy b s
  have hn:sy.n47 s=(toL (vS s)).length:=rfl
  have hf:sy.f47 s=lim (toL (vS s)):=rfl
  have hl:=len_limbs s
  rw [sy_load s hs,hn,hf,sy_pack _ _ (by omega),sy_agg] at hcall
  refine ⟨_,_,hcall,fun B w ys hr=>hr,fun B w y hr=> ?_⟩
  have e:(if (!b)=true then -(vS s:Int) else (vS s:Int))= -(val b s):=by
   unfold val
   cases b <;> simp
  rw [e] at hr
  exact hr
 ·cases h
theorem cmp_tt (S:Sy) (s t:ByteArray):callA Tryz.prog (ES S) 10 10 64 [.agg [.val (.bool true), .val (.string s)], .agg [.val (.bool true), .val (.string t)]]=(bif S.c47 s then bif S.c47 t then bif decide ((0:Int) < (S.n47 s:Int)) then bif decide ((0:Int) < (S.n47 t:Int)) then bif S.c50 (S.n47 t) (S.f47 t) (S.n47 s) (S.f47 s) then some (.val (.int .i64 (S.k50 (S.n47 t) (S.f47 t) (S.n47 s) (S.f47 s)))) else none else bif decide ((0:Int) < (S.n47 s:Int)) then some (.val (.int .i64 (-1))) else bif decide ((0:Int) < (S.n47 t:Int)) then some (.val (.int .i64 1)) else bif S.c50 (S.n47 s) (S.f47 s) (S.n47 t) (S.f47 t) then some (.val (.int .i64 (S.k50 (S.n47 s) (S.f47 s) (S.n47 t) (S.f47 t)))) else none else bif decide ((0:Int) < (S.n47 s:Int)) then some (.val (.int .i64 (-1))) else bif decide ((0:Int) < (S.n47 t:Int)) then some (.val (.int .i64 1)) else bif S.c50 (S.n47 s) (S.f47 s) (S.n47 t) (S.f47 t) then some (.val (.int .i64 (S.k50 (S.n47 s) (S.f47 s) (S.n47 t) (S.f47 t)))) else none else none else none):=by kernel_rfl
theorem cmp_tf (S:Sy) (s t:ByteArray):callA Tryz.prog (ES S) 10 10 64 [.agg [.val (.bool true), .val (.string s)], .agg [.val (.bool false), .val (.string t)]]=(bif S.c47 s then bif S.c47 t then bif decide ((0:Int) < (S.n47 s:Int)) then bif decide ((0:Int) < (S.n47 s:Int)) then some (.val (.int .i64 (-1))) else bif S.c50 (S.n47 s) (S.f47 s) (S.n47 t) (S.f47 t) then some (.val (.int .i64 (S.k50 (S.n47 s) (S.f47 s) (S.n47 t) (S.f47 t)))) else none else bif decide ((0:Int) < (S.n47 s:Int)) then some (.val (.int .i64 (-1))) else bif S.c50 (S.n47 s) (S.f47 s) (S.n47 t) (S.f47 t) then some (.val (.int .i64 (S.k50 (S.n47 s) (S.f47 s) (S.n47 t) (S.f47 t)))) else none else none else none):=by kernel_rfl
theorem cmp_ft (S:Sy) (s t:ByteArray):callA Tryz.prog (ES S) 10 10 64 [.agg [.val (.bool false), .val (.string s)], .agg [.val (.bool true), .val (.string t)]]=(bif S.c47 s then bif S.c47 t then bif decide ((0:Int) < (S.n47 t:Int)) then some (.val (.int .i64 1)) else bif S.c50 (S.n47 s) (S.f47 s) (S.n47 t) (S.f47 t) then some (.val (.int .i64 (S.k50 (S.n47 s) (S.f47 s) (S.n47 t) (S.f47 t)))) else none else none else none):=by kernel_rfl
theorem cmp_ff (S:Sy) (s t:ByteArray):callA Tryz.prog (ES S) 10 10 64 [.agg [.val (.bool false), .val (.string s)], .agg [.val (.bool false), .val (.string t)]]=(bif S.c47 s then bif S.c47 t then bif S.c50 (S.n47 s) (S.f47 s) (S.n47 t) (S.f47 t) then some (.val (.int .i64 (S.k50 (S.n47 s) (S.f47 s) (S.n47 t) (S.f47 t)))) else none else none else none):=by kernel_rfl
theorem len_pos (n:Nat):decide ((0:Int) < ((toL n).length:Int))=decide (n≠0):=by
 by_cases h:n=0
 ·subst h
  rw [toL_zero]
  rfl
 ·rw [decide_eq_true h,decide_eq_true]
  rcases Nat.eq_zero_or_pos (toL n).length with h2 | h2
  ·have h3:=vL_toL n
   rw [List.length_eq_zero_iff.1 h2,vL_nil] at h3
   exact absurd h3.symm h
  ·omega
theorem sy_cmp (a b:Nat) (ha:(toL a).length≤140737488355328) (hb:(toL b).length≤140737488355328):sy.c50 (toL a).length (lim (toL a)) (toL b).length (lim (toL b))=true∧sy.k50 (toL a).length (lim (toL a)) (toL b).length (lim (toL b))=cmpN a b:=by
 constructor
 ·show (canB _ _&&canB _ _&&decide _&&decide _)=true
  rw [canB_enc,canB_enc,decide_eq_true ha,decide_eq_true hb]
  rfl
 ·show cmpN (vL (rowOf _ _)) (vL (rowOf _ _))=_
  rw [rowOf_enc,rowOf_enc,vL_toL,vL_toL]
def cmpC (args:List AV):Option (Bool×AV):=match args with | [.agg [.val (.bool b), .val (.string s)], .agg [.val (.bool c), .val (.string t)]]=>some (decide (s.size≤17592186044416)&&decide (t.size≤17592186044416), .val (.int .i64 (cmpZ (val b s) (val c t)))) | _=>none
theorem cmp_entry:Entry Tryz.prog 64 cmpC:=by
 refine entry_to (E:=ES sy) (u:=10) (d:=10) CS_ok loops_none (by kernel_rfl) (fun args r h=> ?_)
 unfold cmpC at h
 split at h
 ·rename_i b s c t
  simp only [Option.some.injEq,Prod.mk.injEq,Bool.and_eq_true,decide_eq_true_eq] at h
  obtain ⟨⟨hs,ht⟩,rfl⟩:=h
  have hls:=len_limbs s
  have hlt:=len_limbs t
  obtain ⟨q1,q2⟩:=sy_cmp (vS s) (vS t) (by omega) (by omega)
  obtain ⟨q3,q4⟩:=sy_cmp (vS t) (vS s) (by omega) (by omega)
  have e1:sy.n47 s=(toL (vS s)).length:=rfl
  have e2:sy.f47 s=lim (toL (vS s)):=rfl
  have e3:sy.n47 t=(toL (vS t)).length:=rfl
  have e4:sy.f47 t=lim (toL (vS t)):=rfl
  have key:callA Tryz.prog (ES sy) 10 10 64 [.agg [.val (.bool b), .val (.string s)], .agg [.val (.bool c), .val (.string t)]]=some (.val (.int .i64 (cmpZ (val b s) (val c t)))):=by
   cases b <;> cases c
   ·rw [cmp_ff,sy_load s hs,sy_load t ht,e1,e2,e3,e4,q1,q2]
    simp only [cond,val,cmpN,cmpZ]
    simp
   ·rw [cmp_ft,sy_load s hs,sy_load t ht,e1,e2,e3,e4,q1,q2,len_pos]
    simp only [cond,val,cmpN,cmpZ]
    by_cases h0:vS t=0
    ·simp [h0]
     try (intro h;omega)
    ·rw [decide_eq_true h0]
     simp only [if_true,Bool.false_eq_true,if_false]
     rw [if_neg (by omega),if_pos (by omega)]
   ·rw [cmp_tf,sy_load s hs,sy_load t ht,e1,e2,e3,e4,q1,q2,len_pos]
    simp only [val,cmpN,cmpZ]
    by_cases h0:vS s=0
    ·simp [h0]
     try (split <;> first | rfl | rw [if_neg (by omega)])
    ·rw [decide_eq_true h0]
     simp only [cond,if_true,Bool.false_eq_true,if_false]
     rw [if_pos (by omega)]
   ·rw [cmp_tt,sy_load s hs,sy_load t ht,e1,e2,e3,e4,q1,q2,q3,q4,len_pos,len_pos]
    simp only [val,cmpN,cmpZ]
    by_cases h0:vS s=0
    ·by_cases h1:vS t=0
     ·simp [h0,h1]
     ·simp [h0,h1]
      try omega
    ·by_cases h1:vS t=0
     ·simp [h0,h1]
      try omega
     ·simp [h0,h1]
  exact ⟨_,_,key,fun B w ys hr=>hr,fun B w y hr=>hr⟩
 ·cases h
theorem strEq_iff (s t:ByteArray):strEq s t=decide (s=t):=by
 unfold strEq
 by_cases h:s=t
 ·rw [decide_eq_true h,h]
  simp
 ·rw [decide_eq_false h,← Bool.not_eq_true,beq_iff_eq]
  exact fun e=>h (bytes_ext e)
def chk (b:Bool) (s:ByteArray):Int:=if magOf (vS s)=s then (if b=true∧s.toList= [] then 1 else 0) else 1
end
end Go.Proofs.YtamcpiicmfielaaGreat.L
namespace Go.Proofs.YtamcpiicmfielaaGreat.L
open Go Go.V Go.RowKit Go.Proofs.YtamcpiicmfielaaGreat.Sp Go.Proofs.YtamcpiicmfielaaGreat.F Go.Proofs.YtamcpiicmfielaaGreatW.PrintWords
open Go.Proofs (Tryz.prog)
noncomputable section
def two (w:Int):List Int:= [IntKind.u32.wrap w,IntKind.u32.wrap (w.fdiv (2 ^ min (Int.toNat 32) IntKind.u64.bits))]
theorem of_call (S : Sy) (z : Int) : callA Tryz.prog (ES S) 10 10 69 [.val (.int .i64 z)] =
    (bif decide (z < 0) then bif S.c48 (decide (z < 0)) 2 (lim (two (IntKind.u64.wrap (0 - IntKind.u64.wrap z)))) then some (.agg [.val (.bool (S.b48 (decide (z < 0)) 2 (lim (two (IntKind.u64.wrap (0 - IntKind.u64.wrap z)))))), .val (.string (S.s48 (decide (z < 0)) 2 (lim (two (IntKind.u64.wrap (0 - IntKind.u64.wrap z))))))]) else none
     else bif S.c48 (decide (z < 0)) 2 (lim (two (IntKind.u64.wrap z))) then some (.agg [.val (.bool (S.b48 (decide (z < 0)) 2 (lim (two (IntKind.u64.wrap z))))), .val (.string (S.s48 (decide (z < 0)) 2 (lim (two (IntKind.u64.wrap z)))))]) else none) := by kernel_rfl
theorem two_val {n:Nat} (h:n < 18446744073709551616):okL (two n)∧vL (two n)=n:=by
 have e1:IntKind.u32.wrap (n:Int)=((n % 4294967296:Nat):Int):=by rw [IntKind.wrap_u32];omega
 have e2:IntKind.u32.wrap ((n:Int).fdiv (2 ^ min (Int.toNat 32) IntKind.u64.bits))=((n / 4294967296:Nat):Int):=by
  rw [show ((2:Int) ^ min (Int.toNat 32) IntKind.u64.bits)=((4294967296:Nat):Int) from rfl,Int.fdiv_eq_ediv_of_nonneg _ (by omega),← Int.natCast_ediv,IntKind.wrap_u32]
  omega
 unfold two
 rw [e1,e2]
 refine ⟨fun x hx=> ?_, ?_⟩
 ·simp only [List.mem_cons,List.not_mem_nil,or_false] at hx
  rcases hx with rfl | rfl <;> omega
 ·simp only [vL_cons,vL_nil,Int.toNat_natCast]
  omega
def ofC (args:List AV):Option (Bool×AV):=match args with | [.val (.int .i64 z)]=>some (decide (-9223372036854775808≤z)&&decide (z≤9223372036854775807),encA z) | _=>none
theorem sy_two (b:Bool) (n:Nat) (h:n < 18446744073709551616):sy.c48 b 2 (lim (two n))=true∧AV.agg [.val (.bool (sy.b48 b 2 (lim (two n)))), .val (.string (sy.s48 b 2 (lim (two n))))]=encA (if b=true then -(n:Int) else (n:Int)):=by
 obtain ⟨h1,h2⟩:=two_val h
 have hr:rowOf 2 (lim (two n))=two n:=rowOf_lim (two n) (Nat.le_refl 2)
 constructor
 ·show (okB 2 (lim (two n))&&decide (2≤17592186044416))=true
  rw [(okB_iff _ _).2 (by rw [hr];exact h1),decide_eq_true (by omega)]
  rfl
 ·show AV.agg [.val (.bool (enc (if b=true then -(vL (rowOf 2 (lim (two n))):Int) else (vL (rowOf 2 (lim (two n))):Int))).1), .val (.string (enc (if b=true then -(vL (rowOf 2 (lim (two n))):Int) else (vL (rowOf 2 (lim (two n))):Int))).2)]=_
  rw [hr,h2]
  rfl
theorem of_entry:Entry Tryz.prog 69 ofC:=by
 refine entry_to (E:=ES sy) (u:=10) (d:=10) CS_ok loops_none (by kernel_rfl) (fun args r h=> ?_)
 unfold ofC at h
 split at h
 ·rename_i z
  simp only [Option.some.injEq,Prod.mk.injEq,Bool.and_eq_true,decide_eq_true_eq] at h
  obtain ⟨⟨h0,h1⟩,rfl⟩:=h
  have hcall:=of_call sy z
  have key:callA Tryz.prog (ES sy) 10 10 69 [.val (.int .i64 z)]=some (encA z):=by
   rw [hcall]
   by_cases hz:z < 0
   ·have e:IntKind.u64.wrap (0 - IntKind.u64.wrap z)=((z.natAbs:Nat):Int):=by rw [IntKind.wrap_u64,IntKind.wrap_u64];omega
    obtain ⟨q1,q2⟩:=sy_two true z.natAbs (by omega)
    rw [decide_eq_true hz,e,q1,q2,if_pos rfl,show -((z.natAbs:Nat):Int)=z by omega]
    rfl
   ·have e:IntKind.u64.wrap z=((z.natAbs:Nat):Int):=by rw [IntKind.wrap_u64];omega
    obtain ⟨q1,q2⟩:=sy_two false z.natAbs (by omega)
    rw [decide_eq_false hz,e,q1,q2,if_neg (by decide),show ((z.natAbs:Nat):Int)=z by omega]
    rfl
  exact ⟨_,_,key,fun B w ys hr=>hr,fun B w y hr=>hr⟩
 ·cases h
end
end Go.Proofs.YtamcpiicmfielaaGreat.L
namespace Go.Proofs.YtamcpiicmfielaaGreat.L
open Go Go.V Go.RowKit Go.Proofs.YtamcpiicmfielaaGreat.Sp Go.Proofs.YtamcpiicmfielaaGreat.F Go.Proofs.YtamcpiicmfielaaGreatW.PrintWords
open Go.Proofs (Tryz.prog)
noncomputable section
structure Sg where
 len:Nat→Nat
 row:Nat→Nat→Nat→AV
 num:Nat→(Nat→Nat→AV)→Nat
 okr:Nat→(Nat→Nat→AV)→Bool
 oks:Nat→(Nat→Nat→AV)→Bool
 can:Nat→(Nat→Nat→AV)→Bool
 vs:ByteArray→Nat
 mg:Nat→ByteArray
 ok:ByteArray→Bool
 sg:Bool→Nat→Int
 val:Bool→ByteArray→Int
 ng:Int→Bool
 ms:Int→ByteArray
 cmp:Nat→Nat→Int
 cmz:Int→Int→Int
 chk:Bool→ByteArray→Int
 bl:Nat→Nat
def Sg.lmb (S:Sg) (n:Nat):AV:= .lst false 129 (S.len n) (S.row n)
def Sg.int (S:Sg) (z:Int):AV:= .agg [.val (.bool (S.ng z)), .val (.string (S.ms z))]
def sg0:Sg where
 len n:=(toL n).length
 row n:=lim (toL n)
 num m f:=vL (rowOf m f)
 okr m f:=okB m f&&decide (m≤17592186044416)
 oks m f:=okB m f&&decide (m≤8796093022208)
 can m f:=canB m f&&decide (m≤17592186044416)
 vs s:=vS s
 mg n:=magOf n
 ok s:=decide (s.size≤8796093022208)
 sg b n:=if b=true then -(n:Int) else (n:Int)
 val b s:=Sp.val b s
 ng z:=(enc z).1
 ms z:=(enc z).2
 cmp a b:=cmpN a b
 cmz a b:=cmpZ a b
 chk b s:=L.chk b s
 bl n:=blen n
theorem num_row (n:Nat):sg0.num (sg0.len n) (sg0.row n)=n:=by
 show vL (rowOf (toL n).length (lim (toL n)))=n
 rw [rowOf_enc,vL_toL]
def bs (n:Nat):Nat:=(toB n).length
theorem len_bs (n:Nat):sg0.len n≤bs n:=by
 show (toL n).length≤(toB n).length
 refine len_toL_le (Nat.lt_of_lt_of_le (lt_of_len_toB (Nat.le_refl _)) ?_)
 exact Nat.pow_le_pow_left (by decide) _
theorem okr_row {n:Nat} (h:bs n≤17592186044416):sg0.okr (sg0.len n) (sg0.row n)=true:=by
 show (okB (toL n).length (lim (toL n))&&decide ((toL n).length≤17592186044416))=true
 have:=len_bs n
 have h2:(toL n).length≤17592186044416:=Nat.le_trans this h
 rw [okB_enc,decide_eq_true h2]
 rfl
theorem oks_row {n:Nat} (h:bs n≤8796093022208):sg0.oks (sg0.len n) (sg0.row n)=true:=by
 show (okB (toL n).length (lim (toL n))&&decide ((toL n).length≤8796093022208))=true
 have:=len_bs n
 have h2:(toL n).length≤8796093022208:=Nat.le_trans this h
 rw [okB_enc,decide_eq_true h2]
 rfl
theorem can_row {n:Nat} (h:bs n≤17592186044416):sg0.can (sg0.len n) (sg0.row n)=true:=by
 show (canB (toL n).length (lim (toL n))&&decide ((toL n).length≤17592186044416))=true
 have:=len_bs n
 have h2:(toL n).length≤17592186044416:=Nat.le_trans this h
 rw [canB_enc,decide_eq_true h2]
 rfl
theorem val_ms (z:Int):sg0.val (sg0.ng z) (sg0.ms z)=z:=val_enc z
theorem size_ms (z:Int):(sg0.ms z).size=bs z.natAbs:=size_magOf _
theorem ok_ms {z:Int} (h:bs z.natAbs≤8796093022208):sg0.ok (sg0.ms z)=true:=decide_eq_true (by rw [size_ms];exact h)
theorem vs_val (b:Bool) (s:ByteArray):sg0.vs s=(sg0.val b s).natAbs:=(natAbs_val b s).symm
theorem bs_vs (s:ByteArray):bs (sg0.vs s)≤s.size:=len_toB_le (vS_lt s)
theorem bs_val (b:Bool) (s:ByteArray):bs (sg0.val b s).natAbs≤s.size:=by rw [← vs_val];exact bs_vs s
theorem vs_ms (z:Int):sg0.vs (sg0.ms z)=z.natAbs:=vS_magOf _
theorem vs_mg (n:Nat):sg0.vs (sg0.mg n)=n:=vS_magOf _
theorem bs_le {n m:Nat} (h:n < 256 ^ m):bs n≤m:=len_toB_le h
theorem bs_lt (n:Nat):n < 256 ^ bs n:=lt_of_len_toB (Nat.le_refl _)
theorem bs_mono {a b:Nat} (h:a≤b):bs a≤bs b:=bs_le (Nat.lt_of_le_of_lt h (bs_lt b))
theorem bs_add (a b:Nat):bs (a+b)≤max (bs a) (bs b)+1:=by
 apply bs_le
 have h1:=Nat.lt_of_lt_of_le (bs_lt a) (Nat.pow_le_pow_right (by decide:0 < 256) (Nat.le_max_left (bs a) (bs b)))
 have h2:=Nat.lt_of_lt_of_le (bs_lt b) (Nat.pow_le_pow_right (by decide:0 < 256) (Nat.le_max_right (bs a) (bs b)))
 rw [Nat.pow_succ]
 omega
theorem bs_mul (a b:Nat):bs (a*b)≤bs a+bs b:=by
 apply bs_le
 rw [Nat.pow_add]
 exact Nat.mul_lt_mul'' (bs_lt a) (bs_lt b)
theorem bs_sub (a b:Nat):bs (a - b)≤bs a:=bs_mono (Nat.sub_le a b)
theorem bs_div (a b:Nat):bs (a / b)≤bs a:=bs_mono (Nat.div_le_self a b)
theorem bs_mod (a b:Nat):bs (a % b)≤bs a:=bs_mono (Nat.mod_le a b)
theorem bs_zadd (a b:Int):bs (a+b).natAbs≤max (bs a.natAbs) (bs b.natAbs)+1:=Nat.le_trans (bs_mono (Int.natAbs_add_le a b)) (bs_add _ _)
theorem bs_zmul (a b:Int):bs (a*b).natAbs≤bs a.natAbs+bs b.natAbs:=by rw [Int.natAbs_mul];exact bs_mul _ _
theorem bs_neg (a:Int):bs (-a).natAbs=bs a.natAbs:=by rw [Int.natAbs_neg]
def tStrip (S:Sg) (args:List AV):Option (Bool×AV):=match args with | [.val (.string s)]=>some (true, .val (.string (S.mg (S.vs s)))) | _=>none
def tLoad (S:Sg) (args:List AV):Option (Bool×AV):=match args with | [.val (.string s)]=>some (S.ok s,S.lmb (S.vs s)) | _=>none
def tTrim (S:Sg) (args:List AV):Option (Bool×AV):=match args with | [.lst _ 129 m f]=>some (S.okr m f,S.lmb (S.num m f)) | _=>none
def tPack (S:Sg) (args:List AV):Option (Bool×AV):=match args with | [.val (.bool b), .lst _ 129 m f]=>some (S.okr m f,S.int (S.sg b (S.num m f))) | _=>none
def tCompareL (S:Sg) (args:List AV):Option (Bool×AV):=match args with | [.lst _ 129 m f, .lst _ 129 n g]=>some (S.can m f&&S.can n g, .val (.int .i64 (S.cmp (S.num m f) (S.num n g)))) | _=>none
def tNeg (S:Sg) (args:List AV):Option (Bool×AV):=match args with | [.agg [.val (.bool b), .val (.string s)]]=>some (S.ok s,S.int (-(S.val b s))) | _=>none
def tCompare (S:Sg) (args:List AV):Option (Bool×AV):=match args with | [.agg [.val (.bool b), .val (.string s)], .agg [.val (.bool c), .val (.string t)]]=>some (S.ok s&&S.ok t, .val (.int .i64 (S.cmz (S.val b s) (S.val c t)))) | _=>none
def inI (z:Int):Bool:=decide (-9223372036854775808≤z)&&decide (z≤9223372036854775807)
def tOf (S:Sg) (args:List AV):Option (Bool×AV):=match args with | [.val (.int .i64 z)]=>some (inI z,S.int z) | _=>none
theorem entry_less {g:FuncId} {f f':List AV→Option (Bool×AV)} (h:Entry Tryz.prog g f) (hf:∀ args r,f' args=some (true,r)→f args=some (true,r)):Entry Tryz.prog g f':=fun args r hr=>h args r (hf args r hr)
theorem eLoad:Entry Tryz.prog 106 (tLoad sg0):=entry_less load_entry fun args r h=>by
 unfold tLoad at h
 split at h
 ·simp only [Option.some.injEq,Prod.mk.injEq] at h
  obtain ⟨h1,rfl⟩:=h
  have h2:=of_decide_eq_true h1
  exact congrArg some (Prod.ext (show decide (_≤140737488355328)=true from decide_eq_true (Nat.le_trans h2 (by decide))) rfl)
 ·cases h
theorem eTrim:Entry Tryz.prog 140 (tTrim sg0):=entry_less trim_entry fun args r h=>by
 unfold tTrim at h
 split at h
 ·simp only [Option.some.injEq,Prod.mk.injEq] at h
  obtain ⟨h1,rfl⟩:=h
  have h1:(okB _ _&&decide (_≤_))=true:=h1
  rw [Bool.and_eq_true,decide_eq_true_eq] at h1
  exact congrArg some (Prod.ext (show (okB _ _&&decide (_≤140737488355328))=true by rw [h1.1,decide_eq_true (Nat.le_trans h1.2 (by decide))];rfl) rfl)
 ·cases h
theorem ePack:Entry Tryz.prog 108 (tPack sg0):=pack_entry
theorem eCompareL:Entry Tryz.prog 107 (tCompareL sg0):=entry_less compare_entry fun args r h=>by
 unfold tCompareL at h
 split at h
 ·simp only [Option.some.injEq,Prod.mk.injEq] at h
  obtain ⟨h1,rfl⟩:=h
  have h1:((canB _ _&&decide (_≤_))&&(canB _ _&&decide (_≤_)))=true:=h1
  simp only [Bool.and_eq_true,decide_eq_true_eq] at h1
  obtain ⟨⟨a1,a2⟩,a3,a4⟩:=h1
  exact congrArg some (Prod.ext (show (canB _ _&&canB _ _&&decide (_≤140737488355328)&&decide (_≤140737488355328))=true by rw [a1,a3,decide_eq_true (Nat.le_trans a2 (by decide)),decide_eq_true (Nat.le_trans a4 (by decide))];rfl) rfl)
 ·cases h
theorem eNeg:Entry Tryz.prog 121 (tNeg sg0):=entry_less neg_entry fun args r h=>by
 unfold tNeg at h
 split at h
 ·simp only [Option.some.injEq,Prod.mk.injEq] at h
  obtain ⟨h1,rfl⟩:=h
  have h2:=of_decide_eq_true h1
  exact congrArg some (Prod.ext (show decide (_≤17592186044416)=true from decide_eq_true (Nat.le_trans h2 (by decide))) rfl)
 ·cases h
theorem eCompare:Entry Tryz.prog 64 (tCompare sg0):=entry_less cmp_entry fun args r h=>by
 unfold tCompare at h
 split at h
 ·simp only [Option.some.injEq,Prod.mk.injEq] at h
  obtain ⟨h1,rfl⟩:=h
  have h1:(decide (_≤_)&&decide (_≤_))=true:=h1
  simp only [Bool.and_eq_true,decide_eq_true_eq] at h1
  exact congrArg some (Prod.ext (show (decide (_≤17592186044416)&&decide (_≤17592186044416))=true by rw [decide_eq_true (Nat.le_trans h1.1 (by decide)),decide_eq_true (Nat.le_trans h1.2 (by decide))];rfl) rfl)
 ·cases h
theorem eOf:Entry Tryz.prog 69 (tOf sg0):=of_entry
theorem dT {p:Prop} [Decidable p] (h:p):decide p=true:=decide_eq_true h
theorem dF {p:Prop} [Decidable p] (h:¬ p):decide p=false:=decide_eq_false h
theorem i64T {z:Int} (h: -9223372036854775808≤z∧z≤9223372036854775807):inR .i64 z=true:=i64_ok h.1 h.2
theorem u64T {z:Int} (h:0≤z∧z≤18446744073709551615):inR .u64 z=true:=by
 unfold inR;rw [Bool.and_eq_true,decide_eq_true_eq,decide_eq_true_eq];exact h
theorem u32w (n:Nat):IntKind.u32.wrap (n:Int)=((n % 4294967296:Nat):Int):=by rw [IntKind.wrap_u32];omega
theorem u64w' (n:Nat):IntKind.u64.wrap (n:Int)=((n % 18446744073709551616:Nat):Int):=by rw [IntKind.wrap_u64];omega
theorem fdivN (a b:Nat):(a:Int).fdiv (b:Int)=((a / b:Nat):Int):=by rw [Int.fdiv_eq_ediv_of_nonneg _ (by omega)];rfl
theorem fdiv32 (a:Nat):(a:Int).fdiv (4294967296:Int)=((a / 4294967296:Nat):Int):=fdivN a 4294967296
theorem getD_limb {l:List Int} (h:okL l) (i:Nat) (hi:i < l.length):∃ a:Nat,a < 4294967296∧l[i]=(a:Int)∧l.getD i 0=(a:Int):=by
 obtain ⟨a,ha,he⟩:=limb_nat h i hi
 exact ⟨a,ha,he,by rw [List.getD_eq_getElem?_getD,List.getElem?_eq_getElem hi,Option.getD_some,he]⟩
theorem room64 (n:Nat) (h:n≤35184372088832):roomA Tryz.prog n 129=true:=by
 unfold roomA
 rw [Bool.and_eq_true,decide_eq_true_eq,decide_eq_true_eq,show Tryz.prog.bytesOf 129=4 by kernel_rfl]
 omega
theorem rowOf_lim' (zs:List Int):rowOf zs.length (lim zs)=zs:=by rw [rowOf_lim _ (Nat.le_refl _),List.take_length]
theorem okr_lim {zs:List Int} (h:okL zs) (hl:zs.length≤17592186044416):sg0.okr zs.length (lim zs)=true:=by
 show (okB _ _&&decide _)=true
 rw [(okB_iff _ _).2 (by rw [rowOf_lim'];exact h),decide_eq_true hl]
 rfl
theorem num_lim (zs:List Int):sg0.num zs.length (lim zs)=vL zs:=by
 show vL (rowOf _ _)=_
 rw [rowOf_lim']
theorem okB_lim {zs:List Int} (h:okL zs):okB zs.length (lim zs)=true:=(okB_iff _ _).2 (by rw [rowOf_lim'];exact h)
theorem norm_row {fl:Bool} {m:Nat} {f:Nat→Nat→AV} {α:Nat→Nat×Nat} {B:Nat→Prop} {w:World} {D:Nat→Prop} {x:Value} (hok:okB m f=true) (h:(AV.lst fl 129 m f).Rel Tryz.prog α B w D x):(AV.lst false 129 (rowOf m f).length (lim (rowOf m f))).Rel Tryz.prog α B w D x:=by
 rw [rowOf_len]
 exact lst_flag (row_norm cells129 hok h)
theorem okr_out {m:Nat} {f:Nat→Nat→AV} (h:sg0.okr m f=true):okB m f=true∧okL (rowOf m f)∧(rowOf m f).length≤17592186044416∧sg0.num m f=vL (rowOf m f):=by
 have h:(okB m f&&decide (m≤17592186044416))=true:=h
 rw [Bool.and_eq_true,decide_eq_true_eq] at h
 exact ⟨h.1,(okB_iff _ _).1 h.1,by rw [rowOf_len];exact h.2,rfl⟩
theorem oks_out {m:Nat} {f:Nat→Nat→AV} (h:sg0.oks m f=true):okB m f=true∧okL (rowOf m f)∧(rowOf m f).length≤8796093022208∧sg0.num m f=vL (rowOf m f):=by
 have h:(okB m f&&decide (m≤8796093022208))=true:=h
 rw [Bool.and_eq_true,decide_eq_true_eq] at h
 exact ⟨h.1,(okB_iff _ _).1 h.1,by rw [rowOf_len];exact h.2,rfl⟩
theorem can_out {m:Nat} {f:Nat→Nat→AV} (h:sg0.can m f=true):okB m f=true∧okL (rowOf m f)∧(rowOf m f).length≤17592186044416∧sg0.num m f=vL (rowOf m f)∧rowOf m f=toL (sg0.num m f):=by
 have h:(canB m f&&decide (m≤17592186044416))=true:=h
 rw [Bool.and_eq_true,decide_eq_true_eq] at h
 obtain ⟨h1,h2⟩:=h
 unfold canB at h1
 rw [Bool.and_eq_true,decide_eq_true_eq] at h1
 exact ⟨h1.1,(okB_iff _ _).1 h1.1,by rw [rowOf_len];exact h2,rfl,h1.2⟩
theorem i64L (n:Nat) (h:n≤140737488355328):inR .i64 (n:Int)=true:=i64T (by omega)
def mxI (a b:Int):Int:= @ite Int (a < b) (Int.decLt a b) b a
theorem mxI_nat (a b:Nat):mxI (a:Int) (b:Int)=((max a b:Nat):Int):=by
 unfold mxI
 by_cases h:(a:Int) < b
 ·rw [if_pos h];omega
 ·rw [if_neg h];omega
end
end Go.Proofs.YtamcpiicmfielaaGreat.L
namespace Go.Proofs.YtamcpiicmfielaaGreat.L
open Go Go.V Go.RowKit Go.Proofs.YtamcpiicmfielaaGreat.Sp Go.Proofs.YtamcpiicmfielaaGreat.F Go.Proofs.YtamcpiicmfielaaGreatW.PrintWords
open Go.Proofs (Tryz.prog)
noncomputable section
abbrev p_plus:List Bool:= [false,true,false,true,true,true,true]
def sh_plus (ys:List Int) (zs:List Int) (c:Int) (xs:List Int) (n:Int) (i:Int):List AV:=slots 56 [(1, .lst false 129 ys.length (lim ys)),(5, .sl false 129 0 0 zs.length),(6, .val (.int .u64 c)),(20, .lst false 129 xs.length (lim xs)),(21, .val (.int .i64 n)),(22, .val (.int .i64 i))]
def hp_plus (ys:List Int) (zs:List Int) (c:Int) (xs:List Int) (n:Int) (i:Int):Hp:= [.row (.ints .u32 zs) 129 .live]
theorem body_plus:subC Tryz.prog 118 p_plus=some (.loop (lb 118 p_plus)):=by kernel_rfl
theorem code_plus:subC Tryz.prog 118 (false :: p_plus)=some (lb 118 p_plus):=by kernel_rfl
theorem round_plus (ys:List Int) (zs:List Int) (c:Int) (xs:List Int) (n:Int) (i:Int):letI q_1:=(IntKind.u64.wrap (IntKind.u64.wrap (c+xs.getD i.toNat (0:Int))+ys.getD i.toNat (0:Int)));
  (roundA Tryz.prog EL0 118 [1,5,6,20,21,22] (lb 118 p_plus) (false :: p_plus) (sh_plus ys zs c xs n i) (hp_plus ys zs c xs n i)=(bif decide (i < n) then (bif decide ((0:Int)≤i)&&decide (i < (↑xs.length:Int)) then (bif inR IntKind.u64 (xs.getD i.toNat (0:Int)) then (bif decide (i < (↑ys.length:Int)) then (bif decide ((0:Int)≤i)&&decide (i < (↑ys.length:Int)) then (bif inR IntKind.u64 (ys.getD i.toNat (0:Int)) then (bif decide (zs.length*(1:Nat)≤zs.length)&&roomA Tryz.prog (zs.length+(1:Nat)) (129:Nat)&&true then (bif inR IntKind.i64 (i+(1:Int)) then some (.normal,slots 56 [(1,(.lst false 129 ys.length (lim ys))),(5,(.sl false 129 0 0 (zs.length+(1:Nat)))),(6,(.val (.int .u64 (q_1.fdiv (4294967296:Int))))),(20,(.lst false 129 xs.length (lim xs))),(21,(.val (.int .i64 n))),(22,(.val (.int .i64 (i+(1:Int)))))], [(.row (.ints .u32 (List.take (zs.length*(1:Nat)) zs ++ [IntKind.u32.wrap q_1])) 129 .live)]) else none) else none) else none) else none) else (bif decide (zs.length*(1:Nat)≤zs.length)&&roomA Tryz.prog (zs.length+(1:Nat)) (129:Nat)&&true then (bif inR IntKind.i64 (i+(1:Int)) then some (.normal,slots 56 [(1,(.lst false 129 ys.length (lim ys))),(5,(.sl false 129 0 0 (zs.length+(1:Nat)))),(6,(.val (.int .u64 ((IntKind.u64.wrap (c+xs.getD i.toNat (0:Int))).fdiv (4294967296:Int))))),(20,(.lst false 129 xs.length (lim xs))),(21,(.val (.int .i64 n))),(22,(.val (.int .i64 (i+(1:Int)))))], [(.row (.ints .u32 (List.take (zs.length*(1:Nat)) zs ++ [IntKind.u32.wrap (IntKind.u64.wrap (c+xs.getD i.toNat (0:Int)))])) 129 .live)]) else none) else none)) else none) else none) else some ((.exit 0),slots 56 [(1,(.lst false 129 ys.length (lim ys))),(5,(.sl false 129 0 0 zs.length)),(6,(.val (.int .u64 c))),(20,(.lst false 129 xs.length (lim xs))),(21,(.val (.int .i64 n))),(22,(.val (.int .i64 i)))], [(.row (.ints .u32 zs) 129 .live)]))):=by kernel_rfl
theorem step_plus {ys:List Int} {zs:List Int} {c:Int} {xs:List Int} {n:Int} {i:Int} {e:Ex} {T:List AV} {H:Hp} (h:roundA Tryz.prog EL0 118 [1,5,6,20,21,22] (lb 118 p_plus) (false :: p_plus) (sh_plus ys zs c xs n i) (hp_plus ys zs c xs n i)=some (e,T,H)):V.Ends Tryz.prog false 0 0 (lb 118 p_plus) (sh_plus ys zs c xs n i) (hp_plus ys zs c xs n i) e T H:=
 round_ends (meets_none _) loops_none mixed code_plus h
def pre_plus (ys:List Int) (zs:List Int) (c:Int) (xs:List Int) (n:Int) (i:Int):Prop:=
 okL ys∧okL xs∧ys.length≤xs.length∧xs.length≤17592186044416∧n=xs.length∧c=0∧i=0∧zs= []
def post_plus (ys:List Int) (zs:List Int) (c:Int) (xs:List Int) (n:Int) (i:Int) (r:Int×Int×List Int):Prop:=
 okL r.2.2∧r.2.2.length=xs.length∧∃ k:Nat,k≤1∧r.1=k∧vL r.2.2+4294967296 ^ xs.length*k=vL xs+vL ys
theorem plus_go (ys xs:List Int) (hs:okL ys) (hl:okL xs) (hsl:ys.length≤xs.length) (hb:xs.length≤17592186044416) (d:Nat):∀ (i c:Nat) (out:List Int),i+d=xs.length→okL out→out.length=i→c≤1→
  vL out+4294967296 ^ i*c=vL (xs.take i)+vL (ys.take i)→
  ∃ r:Int×Int×List Int,LoopTo Tryz.prog (lb 118 p_plus) (sh_plus ys out c xs xs.length i) (hp_plus ys out c xs xs.length i) (.exit 0) (sh_plus ys r.2.2 r.1 xs xs.length r.2.1) (hp_plus ys r.2.2 r.1 xs xs.length r.2.1)∧
   okL r.2.2∧r.2.2.length=xs.length∧∃ k:Nat,k≤1∧r.1=k∧vL r.2.2+4294967296 ^ xs.length*k=vL xs+vL ys:=by
 induction d with
 | zero=>
  intro i c out hi hok hlen hc hv
  have hi':i=xs.length:=by omega
  subst hi'
  refine ⟨((c:Int),(xs.length:Int),out), .last (step_plus ?_) (by intro h;cases h),hok,hlen,c,hc,rfl, ?_⟩
  ·rw [round_plus,dF (show ¬ ((xs.length:Int) < xs.length) by omega)]
   rfl
  ·rw [hv,List.take_of_length_le (by omega),List.take_of_length_le (by omega)]
 | succ d ih=>
  intro i c out hi hok hlen hc hv
  have hil:i < xs.length:=by omega
  obtain ⟨a,ha,hea,hra⟩:=getD_limb hl i hil
  have ht:=vL_take_succ xs i hil
  rw [hea,Int.toNat_natCast] at ht
  have hr:=round_plus ys out c xs xs.length i
  rw [Int.toNat_natCast,hra,dT (show (i:Int) < xs.length by omega),dT (show (0:Int)≤(i:Int) by omega),u64T (show 0≤(a:Int)∧(a:Int)≤18446744073709551615 by omega),i64T (show -9223372036854775808≤(i:Int)+1∧(i:Int)+1≤9223372036854775807 by omega),dT (show out.length*1≤out.length by omega),room64 _ (show out.length+1≤35184372088832 by omega),Nat.mul_one,List.take_length] at hr
  have stp:∀ b:Nat,b < 4294967296→vL (ys.take (i+1))=vL (ys.take i)+4294967296 ^ i*b→
    vL (out ++ [(((c+a+b) % 4294967296:Nat):Int)])+4294967296 ^ (i+1)*((c+a+b) / 4294967296)=vL (xs.take (i+1))+vL (ys.take (i+1)):=by
   intro b hb2 hts
   rw [vL_snoc,hlen,Int.toNat_natCast,Nat.pow_succ,ht,hts]
   have h1:=carry_step (n:=c+a+b) hv
   simp only [Nat.mul_add] at h1 ⊢
   omega
  by_cases his:i < ys.length
  ·obtain ⟨b,hb2,heb,hrb⟩:=getD_limb hs i his
   have hts:=vL_take_succ ys i his
   rw [heb,Int.toNat_natCast] at hts
   obtain ⟨r,h1,h2⟩:=ih (i+1) ((c+a+b) / 4294967296) (out ++ [(((c+a+b) % 4294967296:Nat):Int)]) (by omega) (okL_append.2 ⟨hok,by rw [okL_cons];exact ⟨limbN _,okL_nil⟩⟩) (by simp [hlen]) (by omega) (stp b hb2 hts)
   refine ⟨r, .more (step_plus (T:=sh_plus ys (out ++ [(((c+a+b) % 4294967296:Nat):Int)]) ((c+a+b) / 4294967296:Nat) xs xs.length (i+1:Nat)) (H:=hp_plus ys (out ++ [(((c+a+b) % 4294967296:Nat):Int)]) ((c+a+b) / 4294967296:Nat) xs xs.length (i+1:Nat)) ?_) h1,h2⟩
   rw [hr,dT (show (i:Int) < ys.length by omega),hrb,u64T (show 0≤(b:Int)∧(b:Int)≤18446744073709551615 by omega),← Int.natCast_add,u64w',Nat.mod_eq_of_lt (show c+a < 18446744073709551616 by omega),← Int.natCast_add,u64w',Nat.mod_eq_of_lt (show c+a+b < 18446744073709551616 by omega),u32w,fdiv32]
   unfold sh_plus hp_plus
   rw [List.length_append]
   rfl
  ·have hts:vL (ys.take (i+1))=vL (ys.take i)+4294967296 ^ i*0:=by rw [List.take_of_length_le (by omega),List.take_of_length_le (by omega)];simp
   obtain ⟨r,h1,h2⟩:=ih (i+1) ((c+a+0) / 4294967296) (out ++ [(((c+a+0) % 4294967296:Nat):Int)]) (by omega) (okL_append.2 ⟨hok,by rw [okL_cons];exact ⟨limbN _,okL_nil⟩⟩) (by simp [hlen]) (by omega) (stp 0 (by omega) hts)
   refine ⟨r, .more (step_plus (T:=sh_plus ys (out ++ [(((c+a+0) % 4294967296:Nat):Int)]) ((c+a+0) / 4294967296:Nat) xs xs.length (i+1:Nat)) (H:=hp_plus ys (out ++ [(((c+a+0) % 4294967296:Nat):Int)]) ((c+a+0) / 4294967296:Nat) xs xs.length (i+1:Nat)) ?_) h1,h2⟩
   rw [hr,dF (show ¬ (i:Int) < ys.length by omega),← Int.natCast_add,u64w',Nat.mod_eq_of_lt (show c+a < 18446744073709551616 by omega),u32w,fdiv32]
   unfold sh_plus hp_plus
   rw [List.length_append]
   rfl
theorem loop_plus (ys:List Int) (zs:List Int) (c:Int) (xs:List Int) (n:Int) (i:Int) (h:pre_plus ys zs c xs n i):∃ r:Int×Int×List Int,LoopTo Tryz.prog (lb 118 p_plus) (sh_plus ys zs c xs n i) (hp_plus ys zs c xs n i) (.exit 0) (sh_plus ys r.2.2 r.1 xs n r.2.1) (hp_plus ys r.2.2 r.1 xs n r.2.1)∧post_plus ys zs c xs n i r:=by
 obtain ⟨h1,h2,h3,h4,rfl,rfl,rfl,rfl⟩:=h
 exact plus_go ys xs h1 h2 h3 h4 xs.length 0 0 [] (by omega) okL_nil rfl (by omega) (by simp [vL_nil])
def told_plus (κ:List Int→List Int→Int→List Int→Int→Int→Bool) (φ:List Int→List Int→Int→List Int→Int→Int→Int×Int×List Int) (T:List AV) (H:Hp):Option (Bool×Ex×List AV×Hp):=
 match lget T 1,lget T 5,lget T 6,lget T 20,lget T 21,lget T 22,H with
 | .lst false 129 m_ys f_ys, .sl false 129 0 0 m_zs, .val (.int .u64 c), .lst false 129 m_xs f_xs, .val (.int .i64 n), .val (.int .i64 i), [.row (.ints .u32 zs) 129 .live]=>bif T.length==56 then some (okB m_ys f_ys&&okB m_xs f_xs&&decide (m_zs=zs.length)&&κ (rowOf m_ys f_ys) zs c (rowOf m_xs f_xs) n i, .exit 0,sh_plus (rowOf m_ys f_ys) ((φ (rowOf m_ys f_ys) zs c (rowOf m_xs f_xs) n i).2.2) ((φ (rowOf m_ys f_ys) zs c (rowOf m_xs f_xs) n i).1) (rowOf m_xs f_xs) n ((φ (rowOf m_ys f_ys) zs c (rowOf m_xs f_xs) n i).2.1),hp_plus (rowOf m_ys f_ys) ((φ (rowOf m_ys f_ys) zs c (rowOf m_xs f_xs) n i).2.2) ((φ (rowOf m_ys f_ys) zs c (rowOf m_xs f_xs) n i).1) (rowOf m_xs f_xs) n ((φ (rowOf m_ys f_ys) zs c (rowOf m_xs f_xs) n i).2.1)) else none
 | _,_,_,_,_,_,_=>none
def phi_plus (ys:List Int) (zs:List Int) (c:Int) (xs:List Int) (n:Int) (i:Int):Int×Int×List Int:=Classical.epsilon fun ρ=>LoopTo Tryz.prog (lb 118 p_plus) (sh_plus ys zs c xs n i) (hp_plus ys zs c xs n i) (.exit 0) (sh_plus ys (ρ.2.2) (ρ.1) xs n (ρ.2.1)) (hp_plus ys (ρ.2.2) (ρ.1) xs n (ρ.2.1))∧post_plus ys zs c xs n i ρ
theorem phi_plus_spec (ys:List Int) (zs:List Int) (c:Int) (xs:List Int) (n:Int) (i:Int) (h:pre_plus ys zs c xs n i):LoopTo Tryz.prog (lb 118 p_plus) (sh_plus ys zs c xs n i) (hp_plus ys zs c xs n i) (.exit 0) (sh_plus ys ((phi_plus ys zs c xs n i).2.2) ((phi_plus ys zs c xs n i).1) xs n ((phi_plus ys zs c xs n i).2.1)) (hp_plus ys ((phi_plus ys zs c xs n i).2.2) ((phi_plus ys zs c xs n i).1) xs n ((phi_plus ys zs c xs n i).2.1))∧post_plus ys zs c xs n i (phi_plus ys zs c xs n i):=Classical.epsilon_spec (loop_plus ys zs c xs n i h)
def cond_plus (ys:List Int) (zs:List Int) (c:Int) (xs:List Int) (n:Int) (i:Int):Bool:= @decide (pre_plus ys zs c xs n i) (Classical.propDecidable _)
theorem cond_plus_eq (ys:List Int) (zs:List Int) (c:Int) (xs:List Int) (n:Int) (i:Int) (h:pre_plus ys zs c xs n i):cond_plus ys zs c xs n i=true:= @decide_eq_true _ (Classical.propDecidable _) h
theorem told_plus_ok (T:List AV) (H:Hp) (e:Ex) (T1:List AV) (H1:Hp) (h:told_plus cond_plus phi_plus T H=some (true,e,T1,H1)):V.Ends Tryz.prog false 0 0 (.loop (lb 118 p_plus)) T H e T1 H1:=by
 unfold told_plus at h
 split at h
 ·rename_i m_ys f_ys m_zs c m_xs f_xs n i zs h1 h5 h6 h20 h21 h22
  rw [Bool.cond_eq_ite] at h
  split at h
  ·rename_i hlen
   rw [beq_iff_eq] at hlen
   simp only [Option.some.injEq,Prod.mk.injEq,Bool.and_eq_true,decide_eq_true_eq] at h
   obtain ⟨⟨⟨⟨k1,k2⟩,k3⟩,k4⟩,rfl,rfl,rfl⟩:=h
   have kc:= @of_decide_eq_true _ (Classical.propDecidable _) k4
   refine Ends.pre (phi_plus_spec (rowOf m_ys f_ys) zs c (rowOf m_xs f_xs) n i kc).1.ends (fun α B w D ys hr=>slots_rel hlen (fun p hp y hy=> ?_) hr)
   simp only [List.mem_cons,List.not_mem_nil,or_false] at hp
   rcases hp with rfl | rfl | rfl | rfl | rfl | rfl
   ·rw [h1] at hy;rw [rowOf_len];exact row_norm cells129 k1 hy
   ·rw [h5] at hy;rw [← k3];exact hy
   ·rw [h6] at hy;exact hy
   ·rw [h20] at hy;rw [rowOf_len];exact row_norm cells129 k2 hy
   ·rw [h21] at hy;exact hy
   ·rw [h22] at hy;exact hy
  ·cases h
 ·cases h
def CT (S:Sg):FuncId→List AV→Option (Bool×AV):=addC 140 (tTrim S) noC
theorem CT_ok:Meets Tryz.prog (CT sg0):=(meets_none _).add eTrim
def Kall (_:FuncId):Bool:=true
def EPl (S:Sg) (c:List Int→List Int→Int→List Int→Int→Int→Bool) (φ:List Int→List Int→Int→List Int→Int→Int→Int×Int×List Int):Env:= ⟨CT S,Kall,addL 118 p_plus [1,5,6,20,21,22] (told_plus c φ) noL⟩
theorem plus_call (S:Sg) (c:List Int→List Int→Int→List Int→Int→Int→Bool) (φ:List Int→List Int→Int→List Int→Int→Int→Int×Int×List Int) (xs ys:List Int):letI q_1:=(φ (rowOf xs.length (lim xs)) [] (0:Int) (rowOf ys.length (lim ys)) (↑ys.length:Int) (0:Int));letI q_2:=(φ (rowOf ys.length (lim ys)) [] (0:Int) (rowOf xs.length (lim xs)) (↑xs.length:Int) (0:Int));letI q_3:=(List.take (q_1.snd.snd.length*(1:Nat)) q_1.snd.snd ++ [IntKind.u32.wrap q_1.fst]);letI q_4:=(List.take (q_2.snd.snd.length*(1:Nat)) q_2.snd.snd ++ [IntKind.u32.wrap q_2.fst]);letI q_5:=(q_1.snd.snd.length+(1:Nat));letI q_6:=(q_2.snd.snd.length+(1:Nat));
  (callA Tryz.prog (EPl S c φ) 10 10 118 [.lst false 129 xs.length (lim xs), .lst false 129 ys.length (lim ys)]=(bif decide ((↑xs.length:Int) < (↑ys.length:Int)) then (bif inR IntKind.i64 ((↑ys.length:Int)+(1:Int)) then (bif decide ((4:Int)*((↑ys.length:Int)+(1:Int))≤(281474976710656:Int))&&decide ((↑ys.length:Int)+(1:Int)≤(9223372036854775807:Int)) then (bif okB xs.length (lim xs)&&okB ys.length (lim ys)&&true&&c (rowOf xs.length (lim xs)) [] (0:Int) (rowOf ys.length (lim ys)) (↑ys.length:Int) (0:Int) then (bif decide (q_1.snd.snd.length*(1:Nat)≤q_1.snd.snd.length)&&roomA Tryz.prog q_5 (129:Nat)&&true then (bif decide ((0:Nat)+q_5*(1:Nat)≤q_3.length) then (bif S.okr q_5 (lim q_3) then some (.lst false 129 (S.len (S.num q_5 (lim q_3))) (S.row (S.num q_5 (lim q_3)))) else none) else none) else none) else none) else none) else none) else (bif inR IntKind.i64 ((↑xs.length:Int)+(1:Int)) then (bif decide ((4:Int)*((↑xs.length:Int)+(1:Int))≤(281474976710656:Int))&&decide ((↑xs.length:Int)+(1:Int)≤(9223372036854775807:Int)) then (bif okB ys.length (lim ys)&&okB xs.length (lim xs)&&true&&c (rowOf ys.length (lim ys)) [] (0:Int) (rowOf xs.length (lim xs)) (↑xs.length:Int) (0:Int) then (bif decide (q_2.snd.snd.length*(1:Nat)≤q_2.snd.snd.length)&&roomA Tryz.prog q_6 (129:Nat)&&true then (bif decide ((0:Nat)+q_6*(1:Nat)≤q_4.length) then (bif S.okr q_6 (lim q_4) then some (.lst false 129 (S.len (S.num q_6 (lim q_4))) (S.row (S.num q_6 (lim q_4)))) else none) else none) else none) else none) else none) else none))):=by kernel_rfl
def tPlus (S:Sg) (args:List AV):Option (Bool×AV):=match args with | [.lst _ 129 m f, .lst _ 129 n g]=>some (S.oks m f&&S.oks n g,S.lmb (S.num m f+S.num n g)) | _=>none
theorem plus_to2 (xs ys:List Int) (hx:okL xs) (hy:okL ys) (bx:xs.length≤8796093022208) (by_:ys.length≤8796093022208):callA Tryz.prog (EPl sg0 cond_plus phi_plus) 10 10 118 [.lst false 129 xs.length (lim xs), .lst false 129 ys.length (lim ys)]=some (sg0.lmb (vL xs+vL ys)):=by
 have key:∀ (us vs:List Int),okL us→okL vs→us.length≤vs.length→vs.length≤8796093022208→∃ r:Int×Int×List Int,phi_plus us [] 0 vs vs.length 0=r∧cond_plus us [] 0 vs vs.length 0=true∧okL (r.2.2 ++ [IntKind.u32.wrap r.1])∧r.2.2.length=vs.length∧vL (r.2.2 ++ [IntKind.u32.wrap r.1])=vL vs+vL us:=by
  intro us vs hu hv hl hb
  have hp:pre_plus us [] 0 vs vs.length 0:= ⟨hu,hv,hl,by omega,rfl,rfl,rfl,rfl⟩
  obtain ⟨_,h1,h2,k,h3,h4,h5⟩:=phi_plus_spec us [] 0 vs vs.length 0 hp
  have e:IntKind.u32.wrap (phi_plus us [] 0 vs vs.length 0).1=(k:Int):=by rw [h4,u32w,Nat.mod_eq_of_lt (by omega)]
  refine ⟨_,rfl,cond_plus_eq _ _ _ _ _ _ hp, ?_,h2, ?_⟩
  ·rw [e];exact okL_append.2 ⟨h1,by rw [okL_cons];exact ⟨by omega,okL_nil⟩⟩
  ·rw [e,vL_snoc,h2,Int.toNat_natCast,h5]
 by_cases h:xs.length < ys.length
 ·obtain ⟨r,h1,h2,h3,h4,h5⟩:=key xs ys hx hy (by omega) by_
  have hl:(r.2.2 ++ [IntKind.u32.wrap r.1]).length=r.2.2.length+1:=by simp
  rw [plus_call,dT (show (xs.length:Int) < ys.length by omega)]
  simp only [cond_true,rowOf_lim',Nat.mul_one,Nat.zero_add]
  rw [h1,i64T (show -9223372036854775808≤(ys.length:Int)+1∧(ys.length:Int)+1≤9223372036854775807 by omega),dT (show (4:Int)*((ys.length:Int)+1)≤281474976710656 by omega),dT (show (ys.length:Int)+1≤9223372036854775807 by omega),okB_lim hx,okB_lim hy,h2]
  rw [List.take_length,hl,dT (show r.2.2.length≤r.2.2.length by omega),room64 _ (by omega),dT (show r.2.2.length+1≤r.2.2.length+1 by omega),← hl,okr_lim h3 (by omega),num_lim,h5,Nat.add_comm]
  rfl
 ·obtain ⟨r,h1,h2,h3,h4,h5⟩:=key ys xs hy hx (by omega) bx
  have hl:(r.2.2 ++ [IntKind.u32.wrap r.1]).length=r.2.2.length+1:=by simp
  rw [plus_call,dF (show ¬ (xs.length:Int) < ys.length by omega)]
  simp only [cond_false,rowOf_lim',Nat.mul_one,Nat.zero_add]
  rw [h1,i64T (show -9223372036854775808≤(xs.length:Int)+1∧(xs.length:Int)+1≤9223372036854775807 by omega),dT (show (4:Int)*((xs.length:Int)+1)≤281474976710656 by omega),dT (show (xs.length:Int)+1≤9223372036854775807 by omega),okB_lim hx,okB_lim hy,h2]
  rw [List.take_length,hl,dT (show r.2.2.length≤r.2.2.length by omega),room64 _ (by omega),dT (show r.2.2.length+1≤r.2.2.length+1 by omega),← hl,okr_lim h3 (by omega),num_lim,h5]
  rfl
theorem ePlus:Entry Tryz.prog 118 (tPlus sg0):=by
 refine entry_to (E:=EPl sg0 cond_plus phi_plus) (u:=10) (d:=10) CT_ok (LOk.none.add2 body_plus told_plus_ok).ok (by kernel_rfl) (fun args r h=> ?_)
 unfold tPlus at h
 split at h
 ·simp only [Option.some.injEq,Prod.mk.injEq,Bool.and_eq_true] at h
  obtain ⟨⟨h1,h2⟩,rfl⟩:=h
  obtain ⟨a1,a2,a3,a4⟩:=oks_out h1
  obtain ⟨b1,b2,b3,b4⟩:=oks_out h2
  refine ⟨_,_,plus_to2 _ _ a2 b2 a3 b3,fun B w ys hr=> ?_,fun B w y hr=>by rw [a4,b4];exact hr⟩
  obtain ⟨y,zs,rfl,q1,q2⟩:=hr
  obtain ⟨y2,zs,rfl,q3,q4⟩:=q2
  exact ⟨y,_,rfl,norm_row a1 q1,y2,_,rfl,norm_row b1 q3,q4⟩
 ·cases h
end
end Go.Proofs.YtamcpiicmfielaaGreat.L
namespace Go.Proofs.YtamcpiicmfielaaGreat.L
open Go Go.V Go.RowKit Go.Proofs.YtamcpiicmfielaaGreat.Sp Go.Proofs.YtamcpiicmfielaaGreat.F Go.Proofs.YtamcpiicmfielaaGreatW.PrintWords
open Go.Proofs (Tryz.prog)
noncomputable section
def inU (x:Int):Bool:=decide (0≤x)&&decide (x < 4294967296)
def tSub32 (args:List AV):Option (Bool×AV):=match args with
 | [.val (.int .u32 x), .val (.int .u32 y), .val (.int .u32 b)]=>some (inU x&&inU y&&decide (0≤b)&&decide (b≤1), .tup [.val (.int .u32 ((x+8589934592 - y - b) % 4294967296)), .val (.int .u32 (if x < y+b then 1 else 0))])
 | _=>none
theorem sub32_call (x y b:Int):callA Tryz.prog ⟨noC,Kall,noL⟩ 10 10 154 [.val (.int .u32 x), .val (.int .u32 y), .val (.int .u32 b)]=
  (some (.tup [(.val (.int .u32 (IntKind.u32.wrap (IntKind.u32.wrap (x - y) - b)))),(.val (.int .u32 ((bitI BinOp.or IntKind.u32 (bitI BinOp.and IntKind.u32 (IntKind.u32.wrap (↑(BitVec.ofInt (32:Nat) (4294967295:Int) ^^^ BitVec.ofInt (32:Nat) x).toNat:Int)) y) (bitI BinOp.and IntKind.u32 (IntKind.u32.wrap (↑(BitVec.ofInt (32:Nat) (4294967295:Int) ^^^ BitVec.ofInt (32:Nat) (bitI BinOp.xor IntKind.u32 x y)).toNat:Int)) (IntKind.u32.wrap (IntKind.u32.wrap (x - y) - b)))).fdiv (2147483648:Int))))])):=by kernel_rfl
theorem inU_out {x:Int} (h:inU x=true):∃ a:Nat,a < 4294967296∧x=a:=by
 unfold inU at h
 rw [Bool.and_eq_true,decide_eq_true_eq,decide_eq_true_eq] at h
 exact ⟨x.toNat,by omega,by omega⟩
theorem inU_in {a:Nat} (h:a < 4294967296):inU (a:Int)=true:=by
 unfold inU
 rw [decide_eq_true (show (0:Int)≤a by omega),decide_eq_true (show (a:Int) < 4294967296 by omega)]
 rfl
theorem eSub32:Entry Tryz.prog 154 tSub32:=by
 refine entry_of (E:= ⟨noC,Kall,noL⟩) (u:=10) (d:=10) (meets_none _) loops_none mixed (by kernel_rfl) (fun args r h=> ?_)
 unfold tSub32 at h
 split at h
 ·rename_i x y b
  simp only [Option.some.injEq,Prod.mk.injEq,Bool.and_eq_true,decide_eq_true_eq] at h
  obtain ⟨⟨⟨⟨h1,h2⟩,h3⟩,h4⟩,rfl⟩:=h
  obtain ⟨x,hx,rfl⟩:=inU_out h1
  obtain ⟨y,hy,rfl⟩:=inU_out h2
  obtain ⟨b,rfl⟩:∃ c:Nat,b=c:= ⟨b.toNat,by omega⟩
  have h:=sub32 x y b hx hy (by omega)
  unfold bits_Sub32.f at h
  simp only [Option.some.injEq,Prod.mk.injEq] at h
  obtain ⟨k1,k2⟩:=h
  have e1:IntKind.u32.wrap (IntKind.u32.wrap ((x:Int) - y) - b)=(((x:Int) - y) % 4294967296 - b) % 4294967296:=by rw [IntKind.wrap_u32,IntKind.wrap_u32]
  rw [sub32_call,e1]
  rw [k1] at k2 ⊢
  refine congrArg some ?_
  have e2:(((x+8589934592 - y - b) % 4294967296:Nat):Int)=((x:Int)+8589934592 - y - b) % 4294967296:=by omega
  have e3:(((if x < y+b then 1 else 0:Nat)):Int)=if (x:Int) < (y:Int)+b then 1 else 0:=by split <;> split <;> omega
  rw [e3] at k2
  rw [← e2,← k2]
  rw [Int.fdiv_eq_ediv_of_nonneg _ (by decide)]
  rfl
 ·cases h
def E32:Env:= ⟨addC 154 tSub32 noC,Kall,noL⟩
theorem E32_ok:Meets Tryz.prog E32.C:=(meets_none _).add eSub32
abbrev p_minus:List Bool:= [false,true,false,true,true,true]
def sh_minus (ys:List Int) (zs:List Int) (c:Int) (xs:List Int) (n:Int) (i:Int):List AV:=slots 41 [(1, .lst false 129 ys.length (lim ys)),(5, .sl false 129 0 0 zs.length),(6, .val (.int .u32 c)),(13, .lst false 129 xs.length (lim xs)),(14, .val (.int .i64 n)),(15, .val (.int .i64 i))]
def hp_minus (ys:List Int) (zs:List Int) (c:Int) (xs:List Int) (n:Int) (i:Int):Hp:= [.row (.ints .u32 zs) 129 .live]
theorem body_minus:subC Tryz.prog 119 p_minus=some (.loop (lb 119 p_minus)):=by kernel_rfl
theorem code_minus:subC Tryz.prog 119 (false :: p_minus)=some (lb 119 p_minus):=by kernel_rfl
theorem round_minus (ys:List Int) (zs:List Int) (c:Int) (xs:List Int) (n:Int) (i:Int):
  (roundA Tryz.prog E32 119 [1,5,6,13,14,15] (lb 119 p_minus) (false :: p_minus) (sh_minus ys zs c xs n i) (hp_minus ys zs c xs n i)=(bif decide (i < n) then (bif decide ((0:Int)≤i)&&decide (i < (↑xs.length:Int)) then (bif decide (i < (↑ys.length:Int)) then (bif decide ((0:Int)≤i)&&decide (i < (↑ys.length:Int)) then (bif inU (xs.getD i.toNat (0:Int))&&inU (ys.getD i.toNat (0:Int))&&decide ((0:Int)≤c)&&decide (c≤(1:Int)) then (bif decide ((0:Int)≤i)&&decide (i < (↑zs.length:Int)) then (bif decide ((0:Nat)+i.toNat*(1:Nat) < zs.length) then (bif inR IntKind.i64 (i+(1:Int)) then some (.normal,slots 41 [(1,(.lst false 129 ys.length (lim ys))),(5,(.sl false 129 0 0 zs.length)),(6,(.val (.int .u32 (if xs.getD i.toNat (0:Int) < ys.getD i.toNat (0:Int)+c then (1:Int) else (0:Int))))),(13,(.lst false 129 xs.length (lim xs))),(14,(.val (.int .i64 n))),(15,(.val (.int .i64 (i+(1:Int)))))], [(.row (.ints .u32 (zs.set ((0:Nat)+i.toNat*(1:Nat)) ((xs.getD i.toNat (0:Int)+(8589934592:Int) - ys.getD i.toNat (0:Int) - c) % (4294967296:Int)))) 129 .live)]) else none) else none) else none) else none) else none) else (bif inU (xs.getD i.toNat (0:Int))&&true&&decide ((0:Int)≤c)&&decide (c≤(1:Int)) then (bif decide ((0:Int)≤i)&&decide (i < (↑zs.length:Int)) then (bif decide ((0:Nat)+i.toNat*(1:Nat) < zs.length) then (bif inR IntKind.i64 (i+(1:Int)) then some (.normal,slots 41 [(1,(.lst false 129 ys.length (lim ys))),(5,(.sl false 129 0 0 zs.length)),(6,(.val (.int .u32 (if xs.getD i.toNat (0:Int) < (0:Int)+c then (1:Int) else (0:Int))))),(13,(.lst false 129 xs.length (lim xs))),(14,(.val (.int .i64 n))),(15,(.val (.int .i64 (i+(1:Int)))))], [(.row (.ints .u32 (zs.set ((0:Nat)+i.toNat*(1:Nat)) ((xs.getD i.toNat (0:Int)+(8589934592:Int) - (0:Int) - c) % (4294967296:Int)))) 129 .live)]) else none) else none) else none) else none)) else none) else some ((.exit 0),slots 41 [(1,(.lst false 129 ys.length (lim ys))),(5,(.sl false 129 0 0 zs.length)),(6,(.val (.int .u32 c))),(13,(.lst false 129 xs.length (lim xs))),(14,(.val (.int .i64 n))),(15,(.val (.int .i64 i)))], [(.row (.ints .u32 zs) 129 .live)]))):=by kernel_rfl
theorem step_minus {ys:List Int} {zs:List Int} {c:Int} {xs:List Int} {n:Int} {i:Int} {e:Ex} {T:List AV} {H:Hp} (h:roundA Tryz.prog E32 119 [1,5,6,13,14,15] (lb 119 p_minus) (false :: p_minus) (sh_minus ys zs c xs n i) (hp_minus ys zs c xs n i)=some (e,T,H)):V.Ends Tryz.prog false 0 0 (lb 119 p_minus) (sh_minus ys zs c xs n i) (hp_minus ys zs c xs n i) e T H:=
 round_ends E32_ok loops_none mixed code_minus h
def pre_minus (ys:List Int) (zs:List Int) (c:Int) (xs:List Int) (n:Int) (i:Int):Prop:=
 okL ys∧okL xs∧okL zs∧zs.length=xs.length∧ys.length≤xs.length∧vL ys≤vL xs∧xs.length≤17592186044416∧n=xs.length∧c=0∧i=0
def post_minus (ys:List Int) (zs:List Int) (c:Int) (xs:List Int) (n:Int) (i:Int) (r:Int×Int×List Int):Prop:=
 okL r.2.2∧r.2.2.length=xs.length∧vL r.2.2=vL xs - vL ys
theorem minus_go (ys xs:List Int) (hm:okL ys) (hl:okL xs) (hml:ys.length≤xs.length) (hlt:vL ys≤vL xs) (hb:xs.length≤17592186044416) (d:Nat):∀ (i c:Nat) (out:List Int),i+d=xs.length→okL out→out.length=xs.length→c≤1→
  vL (out.take i)+vL (ys.take i)=vL (xs.take i)+4294967296 ^ i*c→
  ∃ r:Int×Int×List Int,LoopTo Tryz.prog (lb 119 p_minus) (sh_minus ys out c xs xs.length i) (hp_minus ys out c xs xs.length i) (.exit 0) (sh_minus ys r.2.2 r.1 xs xs.length r.2.1) (hp_minus ys r.2.2 r.1 xs xs.length r.2.1)∧
   okL r.2.2∧r.2.2.length=xs.length∧vL r.2.2=vL xs - vL ys:=by
 induction d with
 | zero=>
  intro i c out hi hok hlen hc hv
  have hi':i=xs.length:=by omega
  subst hi'
  rw [List.take_of_length_le (by omega),List.take_of_length_le (by omega),List.take_of_length_le (by omega)] at hv
  have h1:=vL_lt hok
  rw [hlen] at h1
  have hc0:c=0:=by
   rcases (show c=0∨c=1 by omega) with h | h
   ·exact h
   ·rw [h] at hv;omega
  rw [hc0] at hv
  refine ⟨((c:Int),(xs.length:Int),out), .last (step_minus ?_) (by intro h;cases h),hok,hlen,by show vL out=_;omega⟩
  rw [round_minus,dF (show ¬ ((xs.length:Int) < xs.length) by omega)]
  rfl
 | succ d ih=>
  intro i c out hi hok hlen hc hv
  have hil:i < xs.length:=by omega
  obtain ⟨a,ha,hea,hra⟩:=getD_limb hl i hil
  have ht:=vL_take_succ xs i hil
  rw [hea,Int.toNat_natCast] at ht
  have stp:∀ b:Nat,b < 4294967296→vL (ys.take (i+1))=vL (ys.take i)+4294967296 ^ i*b→
    vL ((out.set i (((a+8589934592 - b - c) % 4294967296:Nat):Int)).take (i+1))+vL (ys.take (i+1))=vL (xs.take (i+1))+4294967296 ^ (i+1)*(if a < b+c then 1 else 0):=by
   intro b hb2 hmb
   rw [take_set_succ _ _ (by omega),vL_snoc,List.length_take,Nat.min_eq_left (by omega),Int.toNat_natCast,hmb,ht,Nat.pow_succ]
   have hD:(a+8589934592 - b - c) % 4294967296+b+c=a+4294967296*(if a < b+c then 1 else 0):=by split <;> omega
   generalize (a+8589934592 - b - c) % 4294967296=D at*
   generalize (if a < b+c then 1 else 0)=q at*
   have h2:=congrArg (4294967296 ^ i* ·) hD
   simp only [Nat.mul_add] at h2
   rw [← Nat.mul_assoc] at h2
   omega
  have hcar:∀ b:Nat,((if a < b+c then 1 else 0:Nat))≤1:=fun b=>by split <;> omega
  have hr:=round_minus ys out c xs xs.length i
  have go:∀ b:Nat,b < 4294967296→vL (ys.take (i+1))=vL (ys.take i)+4294967296 ^ i*b→
    roundA Tryz.prog E32 119 [1,5,6,13,14,15] (lb 119 p_minus) (false :: p_minus) (sh_minus ys out c xs xs.length i) (hp_minus ys out c xs xs.length i)=some (.normal,slots 41 [(1, .lst false 129 ys.length (lim ys)),(5, .sl false 129 0 0 out.length),(6, .val (.int .u32 (if (a:Int) < (b:Int)+c then 1 else 0))),(13, .lst false 129 xs.length (lim xs)),(14, .val (.int .i64 xs.length)),(15, .val (.int .i64 ((i:Int)+1)))], [.row (.ints .u32 (out.set (0+i*1) (((a:Int)+8589934592 - b - c) % 4294967296))) 129 .live])→
    ∃ r:Int×Int×List Int,LoopTo Tryz.prog (lb 119 p_minus) (sh_minus ys out c xs xs.length i) (hp_minus ys out c xs xs.length i) (.exit 0) (sh_minus ys r.2.2 r.1 xs xs.length r.2.1) (hp_minus ys r.2.2 r.1 xs xs.length r.2.1)∧
   okL r.2.2∧r.2.2.length=xs.length∧vL r.2.2=vL xs - vL ys:=by
   intro b hb2 hts hrd
   obtain ⟨r,h1,h2⟩:=ih (i+1) _ (out.set i (((a+8589934592 - b - c) % 4294967296:Nat):Int)) (by omega) (okL_set hok _ _ (limbN _).1 (limbN _).2) (by rw [List.length_set];exact hlen) (hcar b) (stp b hb2 hts)
   have e2:(((a+8589934592 - b - c) % 4294967296:Nat):Int)=((a:Int)+8589934592 - b - c) % 4294967296:=by omega
   have e3:(((if a < b+c then 1 else 0:Nat)):Int)=if (a:Int) < (b:Int)+c then 1 else 0:=by split <;> split <;> omega
   rw [e2,e3] at h1
   refine ⟨r, .more (step_minus ?_) h1,h2⟩
   rw [hrd,Nat.zero_add,Nat.mul_one]
   unfold sh_minus hp_minus
   rw [List.length_set]
   rfl
  have i1:inR .i64 ((i:Int)+1)=true:=i64T (by omega)
  rw [Int.toNat_natCast,hra,dT (show (i:Int) < xs.length by omega),dT (show (0:Int)≤(i:Int) by omega),i1,dT (show (i:Int) < (out.length:Int) by omega),dT (show 0+i*1 < out.length by omega),inU_in ha,dT (show (0:Int)≤(c:Int) by omega),dT (show (c:Int)≤1 by omega)] at hr
  by_cases him:i < ys.length
  ·obtain ⟨b,hb2,heb,hrb⟩:=getD_limb hm i him
   have hts:=vL_take_succ ys i him
   rw [heb,Int.toNat_natCast] at hts
   refine go b hb2 hts ?_
   rw [hr,dT (show (i:Int) < ys.length by omega),hrb,inU_in hb2]
   rfl
  ·have hts:vL (ys.take (i+1))=vL (ys.take i)+4294967296 ^ i*0:=by rw [List.take_of_length_le (by omega),List.take_of_length_le (by omega)];simp
   refine go 0 (by omega) hts ?_
   rw [hr,dF (show ¬ (i:Int) < ys.length by omega)]
   rfl
theorem loop_minus (ys:List Int) (zs:List Int) (c:Int) (xs:List Int) (n:Int) (i:Int) (h:pre_minus ys zs c xs n i):∃ r:Int×Int×List Int,LoopTo Tryz.prog (lb 119 p_minus) (sh_minus ys zs c xs n i) (hp_minus ys zs c xs n i) (.exit 0) (sh_minus ys r.2.2 r.1 xs n r.2.1) (hp_minus ys r.2.2 r.1 xs n r.2.1)∧post_minus ys zs c xs n i r:=by
 obtain ⟨h1,h2,h3,h4,h5,h6,h7,rfl,rfl,rfl⟩:=h
 exact minus_go ys xs h1 h2 h5 h6 h7 xs.length 0 0 zs (by omega) h3 h4 (by omega) (by simp [vL_nil])
def told_minus (κ:List Int→List Int→Int→List Int→Int→Int→Bool) (φ:List Int→List Int→Int→List Int→Int→Int→Int×Int×List Int) (T:List AV) (H:Hp):Option (Bool×Ex×List AV×Hp):=
 match lget T 1,lget T 5,lget T 6,lget T 13,lget T 14,lget T 15,H with
 | .lst false 129 m_ys f_ys, .sl false 129 0 0 m_zs, .val (.int .u32 c), .lst false 129 m_xs f_xs, .val (.int .i64 n), .val (.int .i64 i), [.row (.ints .u32 zs) 129 .live]=>bif T.length==41 then some (okB m_ys f_ys&&okB m_xs f_xs&&decide (m_zs=zs.length)&&κ (rowOf m_ys f_ys) zs c (rowOf m_xs f_xs) n i, .exit 0,sh_minus (rowOf m_ys f_ys) ((φ (rowOf m_ys f_ys) zs c (rowOf m_xs f_xs) n i).2.2) ((φ (rowOf m_ys f_ys) zs c (rowOf m_xs f_xs) n i).1) (rowOf m_xs f_xs) n ((φ (rowOf m_ys f_ys) zs c (rowOf m_xs f_xs) n i).2.1),hp_minus (rowOf m_ys f_ys) ((φ (rowOf m_ys f_ys) zs c (rowOf m_xs f_xs) n i).2.2) ((φ (rowOf m_ys f_ys) zs c (rowOf m_xs f_xs) n i).1) (rowOf m_xs f_xs) n ((φ (rowOf m_ys f_ys) zs c (rowOf m_xs f_xs) n i).2.1)) else none
 | _,_,_,_,_,_,_=>none
def phi_minus (ys:List Int) (zs:List Int) (c:Int) (xs:List Int) (n:Int) (i:Int):Int×Int×List Int:=Classical.epsilon fun ρ=>LoopTo Tryz.prog (lb 119 p_minus) (sh_minus ys zs c xs n i) (hp_minus ys zs c xs n i) (.exit 0) (sh_minus ys (ρ.2.2) (ρ.1) xs n (ρ.2.1)) (hp_minus ys (ρ.2.2) (ρ.1) xs n (ρ.2.1))∧post_minus ys zs c xs n i ρ
theorem phi_minus_spec (ys:List Int) (zs:List Int) (c:Int) (xs:List Int) (n:Int) (i:Int) (h:pre_minus ys zs c xs n i):LoopTo Tryz.prog (lb 119 p_minus) (sh_minus ys zs c xs n i) (hp_minus ys zs c xs n i) (.exit 0) (sh_minus ys ((phi_minus ys zs c xs n i).2.2) ((phi_minus ys zs c xs n i).1) xs n ((phi_minus ys zs c xs n i).2.1)) (hp_minus ys ((phi_minus ys zs c xs n i).2.2) ((phi_minus ys zs c xs n i).1) xs n ((phi_minus ys zs c xs n i).2.1))∧post_minus ys zs c xs n i (phi_minus ys zs c xs n i):=Classical.epsilon_spec (loop_minus ys zs c xs n i h)
def cond_minus (ys:List Int) (zs:List Int) (c:Int) (xs:List Int) (n:Int) (i:Int):Bool:= @decide (pre_minus ys zs c xs n i) (Classical.propDecidable _)
theorem cond_minus_eq (ys:List Int) (zs:List Int) (c:Int) (xs:List Int) (n:Int) (i:Int) (h:pre_minus ys zs c xs n i):cond_minus ys zs c xs n i=true:= @decide_eq_true _ (Classical.propDecidable _) h
theorem told_minus_ok (T:List AV) (H:Hp) (e:Ex) (T1:List AV) (H1:Hp) (h:told_minus cond_minus phi_minus T H=some (true,e,T1,H1)):V.Ends Tryz.prog false 0 0 (.loop (lb 119 p_minus)) T H e T1 H1:=by
 unfold told_minus at h
 split at h
 ·rename_i m_ys f_ys m_zs c m_xs f_xs n i zs h1 h5 h6 h13 h14 h15
  rw [Bool.cond_eq_ite] at h
  split at h
  ·rename_i hlen
   rw [beq_iff_eq] at hlen
   simp only [Option.some.injEq,Prod.mk.injEq,Bool.and_eq_true,decide_eq_true_eq] at h
   obtain ⟨⟨⟨⟨k1,k2⟩,k3⟩,k4⟩,rfl,rfl,rfl⟩:=h
   have kc:= @of_decide_eq_true _ (Classical.propDecidable _) k4
   refine Ends.pre (phi_minus_spec (rowOf m_ys f_ys) zs c (rowOf m_xs f_xs) n i kc).1.ends (fun α B w D ys hr=>slots_rel hlen (fun p hp y hy=> ?_) hr)
   simp only [List.mem_cons,List.not_mem_nil,or_false] at hp
   rcases hp with rfl | rfl | rfl | rfl | rfl | rfl
   ·rw [h1] at hy;rw [rowOf_len];exact row_norm cells129 k1 hy
   ·rw [h5] at hy;rw [← k3];exact hy
   ·rw [h6] at hy;exact hy
   ·rw [h13] at hy;rw [rowOf_len];exact row_norm cells129 k2 hy
   ·rw [h14] at hy;exact hy
   ·rw [h15] at hy;exact hy
  ·cases h
 ·cases h
def EMi (S:Sg) (κ:List Int→List Int→Int→List Int→Int→Int→Bool) (φ:List Int→List Int→Int→List Int→Int→Int→Int×Int×List Int):Env:= ⟨CT S,Kall,addL 119 p_minus [1,5,6,13,14,15] (told_minus κ φ) noL⟩
theorem minus_call (S:Sg) (κ:List Int→List Int→Int→List Int→Int→Int→Bool) (φ:List Int→List Int→Int→List Int→Int→Int→Int×Int×List Int) (xs ys:List Int):letI q_2:=(List.replicate (↑xs.length:Int).toNat (0:Int));letI q_1:=(φ (rowOf ys.length (lim ys)) q_2 (0:Int) (rowOf xs.length (lim xs)) (↑xs.length:Int) (0:Int));
  (callA Tryz.prog (EMi S κ φ) 10 10 119 [.lst false 129 xs.length (lim xs), .lst false 129 ys.length (lim ys)]=(bif decide ((↑xs.length:Int)≤(↑xs.length:Int))&&decide ((4:Int)*(↑xs.length:Int)≤(281474976710656:Int))&&decide ((↑xs.length:Int)≤(9223372036854775807:Int)) then (bif okB ys.length (lim ys)&&okB xs.length (lim xs)&&decide ((↑xs.length:Int).toNat=q_2.length)&&κ (rowOf ys.length (lim ys)) q_2 (0:Int) (rowOf xs.length (lim xs)) (↑xs.length:Int) (0:Int) then (bif decide ((0:Nat)+q_1.snd.snd.length*(1:Nat)≤q_1.snd.snd.length) then (bif S.okr q_1.snd.snd.length (lim q_1.snd.snd) then some (.lst false 129 (S.len (S.num q_1.snd.snd.length (lim q_1.snd.snd))) (S.row (S.num q_1.snd.snd.length (lim q_1.snd.snd)))) else none) else none) else none) else none)):=by kernel_rfl
def tMinus (S:Sg) (args:List AV):Option (Bool×AV):=match args with | [.lst _ 129 m f, .lst _ 129 n g]=>some (S.can m f&&S.can n g&&decide (S.num n g≤S.num m f),S.lmb (S.num m f - S.num n g)) | _=>none
theorem eMinus:Entry Tryz.prog 119 (tMinus sg0):=by
 refine entry_to (E:=EMi sg0 cond_minus phi_minus) (u:=10) (d:=10) CT_ok (LOk.none.add2 body_minus told_minus_ok).ok (by kernel_rfl) (fun args r h=> ?_)
 unfold tMinus at h
 split at h
 ·rename_i fl m f fl2 n g
  simp only [Option.some.injEq,Prod.mk.injEq,Bool.and_eq_true,decide_eq_true_eq] at h
  obtain ⟨⟨⟨h1,h2⟩,h3⟩,rfl⟩:=h
  obtain ⟨a1,a2,a3,a4,a5⟩:=can_out h1
  obtain ⟨b1,b2,b3,b4,b5⟩:=can_out h2
  have hml:(rowOf n g).length≤(rowOf m f).length:=by
   rw [b5,a5];exact len_toL_le (Nat.lt_of_le_of_lt h3 (lt_of_len_toL (Nat.le_refl _)))
  have hle:vL (rowOf n g)≤vL (rowOf m f):=by rw [← a4,← b4];exact h3
  have hp:pre_minus (rowOf n g) (List.replicate (rowOf m f).length 0) 0 (rowOf m f) (rowOf m f).length 0:= ⟨b2,a2,okL_replicate _,by simp,hml,hle,a3,rfl,rfl,rfl⟩
  obtain ⟨_,c1,c2,c3⟩:=phi_minus_spec _ _ _ _ _ _ hp
  have hcall:=minus_call sg0 cond_minus phi_minus (rowOf m f) (rowOf n g)
  simp only [rowOf_lim',Nat.mul_one,Nat.zero_add,Int.toNat_natCast,List.length_replicate,eq_self,decide_true] at hcall
  rw [cond_minus_eq _ _ _ _ _ _ hp] at hcall
  generalize phi_minus (rowOf n g) (List.replicate (rowOf m f).length 0) 0 (rowOf m f) (rowOf m f).length 0=r at*
  rw [okB_lim a2,okB_lim b2,dT (show ((rowOf m f).length:Int)≤((rowOf m f).length:Int) by omega),dT (show (4:Int)*((rowOf m f).length:Int)≤281474976710656 by omega),dT (show ((rowOf m f).length:Int)≤9223372036854775807 by omega),dT (show r.2.2.length≤r.2.2.length by omega),okr_lim c1 (by omega),num_lim,c3] at hcall
  refine ⟨_,_,hcall,fun B w ys hr=> ?_,fun B w y hr=>by rw [a4,b4];exact hr⟩
  obtain ⟨y,zs,rfl,q1,q2⟩:=hr
  obtain ⟨y2,zs,rfl,q3,q4⟩:=q2
  exact ⟨y,_,rfl,norm_row a1 q1,y2,_,rfl,norm_row b1 q3,q4⟩
 ·cases h
end
end Go.Proofs.YtamcpiicmfielaaGreat.L
namespace Go.Proofs.YtamcpiicmfielaaGreat.L
open Go Go.V Go.RowKit Go.Proofs.YtamcpiicmfielaaGreat.Sp Go.Proofs.YtamcpiicmfielaaGreat.F Go.Proofs.YtamcpiicmfielaaGreatW.PrintWords
open Go.Proofs (Tryz.prog)
noncomputable section
abbrev p_tin:List Bool:= [false,true,false,true,true,false,false,true,true,false,false,true,false,true,true]
def sh_tin (ys:List Int) (zs:List Int) (j:Int) (x:Int) (c:Int) (xs:List Int) (n:Int) (k:Int) (us:List Int) (m:Int) (i:Int):List AV:=slots 67 [(1, .lst false 129 ys.length (lim ys)),(5, .sl false 129 0 0 zs.length),(6, .val (.int .i64 j)),(7, .val (.int .u32 x)),(8, .val (.int .u64 c)),(17, .lst false 129 xs.length (lim xs)),(18, .val (.int .i64 n)),(19, .val (.int .i64 k)),(24, .lst false 129 us.length (lim us)),(25, .val (.int .i64 m)),(26, .val (.int .i64 i))]
def hp_tin (ys:List Int) (zs:List Int) (j:Int) (x:Int) (c:Int) (xs:List Int) (n:Int) (k:Int) (us:List Int) (m:Int) (i:Int):Hp:= [.row (.ints .u32 zs) 129 .live]
theorem body_tin:subC Tryz.prog 109 p_tin=some (.loop (lb 109 p_tin)):=by kernel_rfl
theorem code_tin:subC Tryz.prog 109 (false :: p_tin)=some (lb 109 p_tin):=by kernel_rfl
theorem round_tin (ys:List Int) (zs:List Int) (j:Int) (x:Int) (c:Int) (xs:List Int) (n:Int) (k:Int) (us:List Int) (m:Int) (i:Int):letI q_1:=(IntKind.u64.wrap (c+IntKind.u64.wrap (IntKind.u64.wrap (x*us.getD i.toNat (0:Int))+zs.getD ((0:Nat)+(j+i).toNat*(1:Nat)) (0:Int))));
  (roundA Tryz.prog EL0 109 [1,5,6,7,8,17,18,19,24,25,26] (lb 109 p_tin) (false :: p_tin) (sh_tin ys zs j x c xs n k us m i) (hp_tin ys zs j x c xs n k us m i)=(bif decide (i < m) then (bif decide ((0:Int)≤i)&&decide (i < (↑us.length:Int)) then (bif inR IntKind.u64 x then (bif inR IntKind.u64 (us.getD i.toNat (0:Int)) then (bif inR IntKind.i64 (j+i) then (bif decide ((0:Int)≤j+i)&&decide (j+i < (↑zs.length:Int)) then (bif decide ((0:Nat)+(j+i).toNat*(1:Nat) < zs.length) then (bif inR IntKind.u64 (zs.getD ((0:Nat)+(j+i).toNat*(1:Nat)) (0:Int)) then (bif inR IntKind.i64 (j+i) then (bif decide ((0:Int)≤j+i)&&decide (j+i < (↑zs.length:Int)) then (bif decide ((0:Nat)+(j+i).toNat*(1:Nat) < zs.length) then (bif inR IntKind.i64 (i+(1:Int)) then some (.normal,slots 67 [(1,(.lst false 129 ys.length (lim ys))),(5,(.sl false 129 0 0 zs.length)),(6,(.val (.int .i64 j))),(7,(.val (.int .u32 x))),(8,(.val (.int .u64 (q_1.fdiv (4294967296:Int))))),(17,(.lst false 129 xs.length (lim xs))),(18,(.val (.int .i64 n))),(19,(.val (.int .i64 k))),(24,(.lst false 129 us.length (lim us))),(25,(.val (.int .i64 m))),(26,(.val (.int .i64 (i+(1:Int)))))], [(.row (.ints .u32 (zs.set ((0:Nat)+(j+i).toNat*(1:Nat)) (IntKind.u32.wrap q_1))) 129 .live)]) else none) else none) else none) else none) else none) else none) else none) else none) else none) else none) else none) else some ((.exit 2),slots 67 [(1,(.lst false 129 ys.length (lim ys))),(5,(.sl false 129 0 0 zs.length)),(6,(.val (.int .i64 j))),(7,(.val (.int .u32 x))),(8,(.val (.int .u64 c))),(17,(.lst false 129 xs.length (lim xs))),(18,(.val (.int .i64 n))),(19,(.val (.int .i64 k))),(24,(.lst false 129 us.length (lim us))),(25,(.val (.int .i64 m))),(26,(.val (.int .i64 i)))], [(.row (.ints .u32 zs) 129 .live)]))):=by kernel_rfl
theorem step_tin {ys:List Int} {zs:List Int} {j:Int} {x:Int} {c:Int} {xs:List Int} {n:Int} {k:Int} {us:List Int} {m:Int} {i:Int} {e:Ex} {T:List AV} {H:Hp} (h:roundA Tryz.prog EL0 109 [1,5,6,7,8,17,18,19,24,25,26] (lb 109 p_tin) (false :: p_tin) (sh_tin ys zs j x c xs n k us m i) (hp_tin ys zs j x c xs n k us m i)=some (e,T,H)):V.Ends Tryz.prog false 0 0 (lb 109 p_tin) (sh_tin ys zs j x c xs n k us m i) (hp_tin ys zs j x c xs n k us m i) e T H:=
 round_ends (meets_none _) loops_none mixed code_tin h
def pre_tin (ys zs:List Int) (j x c:Int) (xs:List Int) (n k:Int) (us:List Int) (m i:Int):Prop:=
 okL ys∧okL zs∧okL xs∧okL us∧zs.length≤17592186044416∧m=us.length∧i=0∧c=0∧inU x=true∧∃ a:Nat,j=a∧a+us.length < zs.length
def post_tin (ys zs:List Int) (j x c:Int) (xs:List Int) (n k:Int) (us:List Int) (m i:Int) (r:Int×Int×List Int):Prop:=
 okL r.2.2∧r.2.2.length=zs.length∧r.2.2.getD (j.toNat+us.length) 0=zs.getD (j.toNat+us.length) 0∧∃ q:Nat,q < 4294967296∧r.1=q∧vL r.2.2+4294967296 ^ (j.toNat+us.length)*q=vL zs+4294967296 ^ j.toNat*(x.toNat*vL us)
theorem tin_go (ys xs us:List Int) (n k:Int) (hu:okL us) (j a L V z:Nat) (ha:a < 4294967296) (hL:L≤17592186044416) (hjl:j+us.length < L) (d:Nat):∀ (i c:Nat) (out:List Int),i+d=us.length→okL out→out.length=L→c < 4294967296→out.getD (j+us.length) 0=z→
  Aside0 (vL out+4294967296 ^ (j+i)*c=V+4294967296 ^ j*(a*vL (us.take i)))→
  ∃ r:Int×Int×List Int,LoopTo Tryz.prog (lb 109 p_tin) (sh_tin ys out j a c xs n k us us.length i) (hp_tin ys out j a c xs n k us us.length i) (.exit 2) (sh_tin ys r.2.2 j a r.1 xs n k us us.length r.2.1) (hp_tin ys r.2.2 j a r.1 xs n k us us.length r.2.1)∧
   okL r.2.2∧r.2.2.length=L∧r.2.2.getD (j+us.length) 0=z∧∃ q:Nat,q < 4294967296∧r.1=q∧vL r.2.2+4294967296 ^ (j+us.length)*q=V+4294967296 ^ j*(a*vL us):=by
 induction d with
 | zero=>
  intro i c out hi hok hlen hc hz hv
  have hi':i=us.length:=by omega
  subst hi'
  refine ⟨((c:Int),(us.length:Int),out), .last (step_tin ?_) (by intro h;cases h),hok,hlen,hz,c,hc,rfl, ?_⟩
  ·rw [round_tin,dF (show ¬ ((us.length:Int) < us.length) by omega)]
   rfl
  ·have:=hv.out
   rw [List.take_length] at this
   exact this
 | succ d ih=>
  intro i c out hi hok hlen hc hz HV
  have hil:i < us.length:=by omega
  obtain ⟨b,hb,heb,hrb⟩:=getD_limb hu i hil
  have HT:=Aside0.mk (vL_take_succ us i hil)
  rw [heb,Int.toNat_natCast] at HT
  have hij:j+i < out.length:=by omega
  obtain ⟨o,ho,heo,hro⟩:=getD_limb hok (j+i) hij
  have hab:a*b≤4294967295*4294967295:=Nat.mul_le_mul (by omega) (by omega)
  have HS:=Aside0.mk (vL_set out (j+i) hij (((c+(a*b+o)) % 4294967296:Nat):Int))
  rw [heo] at HS
  simp only [Int.toNat_natCast] at HS
  obtain ⟨r,h1,h2⟩:=ih (i+1) ((c+(a*b+o)) / 4294967296) (out.set (j+i) (((c+(a*b+o)) % 4294967296:Nat):Int)) (by omega) (okL_set hok _ _ (limbN _).1 (limbN _).2) (by rw [List.length_set];exact hlen) (by omega) (by
   rw [List.getD_eq_getElem?_getD,List.getElem?_set_ne (by omega),← List.getD_eq_getElem?_getD];exact hz) (by
   have hv:=HV.out
   have hts:=HT.out
   have hv0:=HS.out
   constructor
   rw [hts,show j+(i+1)=(j+i)+1 from rfl,Nat.pow_succ]
   have e2:4294967296 ^ (j+i)*((c+(a*b+o)) % 4294967296)+4294967296 ^ (j+i)*4294967296*((c+(a*b+o)) / 4294967296)=4294967296 ^ (j+i)*(c+(a*b+o)):=by
    rw [Nat.mul_assoc,← Nat.mul_add,Nat.mod_add_div]
   have e3:4294967296 ^ j*(a*(vL (us.take i)+4294967296 ^ i*b))=4294967296 ^ j*(a*vL (us.take i))+4294967296 ^ (j+i)*(a*b):=by
    rw [Nat.pow_add];grind
   rw [e3]
   simp only [Nat.mul_add] at e2
   omega)
  refine ⟨r, .more (step_tin ?_) h1,h2⟩
  clear h1 h2 HV HT HS ih
  have hr:=round_tin ys out j a c xs n k us us.length i
  have e1:(j:Int)+(i:Int)=((j+i:Nat):Int):=by omega
  have i1:inR .i64 ((i:Int)+1)=true:=i64T (by omega)
  have i2:inR .i64 ((j+i:Nat):Int)=true:=i64T (by omega)
  rw [e1,Int.toNat_natCast,Int.toNat_natCast,hrb,Nat.zero_add,Nat.mul_one,hro,i1,i2,dT (show (i:Int) < us.length by omega),dT (show (0:Int)≤(i:Int) by omega),dT (show (0:Int)≤((j+i:Nat):Int) by omega),dT (show ((j+i:Nat):Int) < (out.length:Int) by omega),dT hij,
   u64T (show 0≤(a:Int)∧(a:Int)≤18446744073709551615 by omega),u64T (show 0≤(b:Int)∧(b:Int)≤18446744073709551615 by omega),u64T (show 0≤(o:Int)∧(o:Int)≤18446744073709551615 by omega),
   ← Int.natCast_mul,u64w',Nat.mod_eq_of_lt (show a*b < 18446744073709551616 by omega),← Int.natCast_add,u64w',Nat.mod_eq_of_lt (show a*b+o < 18446744073709551616 by omega),← Int.natCast_add,u64w',Nat.mod_eq_of_lt (show c+(a*b+o) < 18446744073709551616 by omega),u32w,fdiv32] at hr
  rw [hr]
  unfold sh_tin hp_tin
  rw [List.length_set]
  rfl
theorem loop_tin (ys zs:List Int) (j x c:Int) (xs:List Int) (n k:Int) (us:List Int) (m i:Int) (h:pre_tin ys zs j x c xs n k us m i):∃ r:Int×Int×List Int,LoopTo Tryz.prog (lb 109 p_tin) (sh_tin ys zs j x c xs n k us m i) (hp_tin ys zs j x c xs n k us m i) (.exit 2) (sh_tin ys r.2.2 j x r.1 xs n k us m r.2.1) (hp_tin ys r.2.2 j x r.1 xs n k us m r.2.1)∧post_tin ys zs j x c xs n k us m i r:=by
 obtain ⟨h1,h2,h3,h4,h5,rfl,rfl,rfl,h6,j,rfl,h7⟩:=h
 obtain ⟨a,ha,rfl⟩:=inU_out h6
 obtain ⟨z,hz,_,hz2⟩:=getD_limb h2 (j+us.length) h7
 have:=tin_go ys xs us n k h4 j a zs.length (vL zs) z ha h5 h7 us.length 0 0 zs (by omega) h2 rfl (by omega) hz2 ⟨by simp [vL_nil]⟩
 rw [← hz2] at this
 exact this
def told_tin (κ:List Int→List Int→Int→Int→Int→List Int→Int→Int→List Int→Int→Int→Bool) (φ:List Int→List Int→Int→Int→Int→List Int→Int→Int→List Int→Int→Int→Int×Int×List Int) (T:List AV) (H:Hp):Option (Bool×Ex×List AV×Hp):=
 match lget T 1,lget T 5,lget T 6,lget T 7,lget T 8,lget T 17,lget T 18,lget T 19,lget T 24,lget T 25,lget T 26,H with
 | .lst false 129 m_ys f_ys, .sl false 129 0 0 m_zs, .val (.int .i64 j), .val (.int .u32 x), .val (.int .u64 c), .lst false 129 m_xs f_xs, .val (.int .i64 n), .val (.int .i64 k), .lst false 129 m_us f_us, .val (.int .i64 m), .val (.int .i64 i), [.row (.ints .u32 zs) 129 .live]=>bif T.length==67 then some (okB m_ys f_ys&&okB m_xs f_xs&&okB m_us f_us&&decide (m_zs=zs.length)&&κ (rowOf m_ys f_ys) zs j x c (rowOf m_xs f_xs) n k (rowOf m_us f_us) m i, .exit 2,sh_tin (rowOf m_ys f_ys) ((φ (rowOf m_ys f_ys) zs j x c (rowOf m_xs f_xs) n k (rowOf m_us f_us) m i).2.2) j x ((φ (rowOf m_ys f_ys) zs j x c (rowOf m_xs f_xs) n k (rowOf m_us f_us) m i).1) (rowOf m_xs f_xs) n k (rowOf m_us f_us) m ((φ (rowOf m_ys f_ys) zs j x c (rowOf m_xs f_xs) n k (rowOf m_us f_us) m i).2.1),hp_tin (rowOf m_ys f_ys) ((φ (rowOf m_ys f_ys) zs j x c (rowOf m_xs f_xs) n k (rowOf m_us f_us) m i).2.2) j x ((φ (rowOf m_ys f_ys) zs j x c (rowOf m_xs f_xs) n k (rowOf m_us f_us) m i).1) (rowOf m_xs f_xs) n k (rowOf m_us f_us) m ((φ (rowOf m_ys f_ys) zs j x c (rowOf m_xs f_xs) n k (rowOf m_us f_us) m i).2.1)) else none
 | _,_,_,_,_,_,_,_,_,_,_,_=>none
abbrev KT_tin:Type:=List Int→List Int→Int→Int→Int→List Int→Int→Int→List Int→Int→Int→Bool
abbrev FT_tin:Type:=List Int→List Int→Int→Int→Int→List Int→Int→Int→List Int→Int→Int→Int×Int×List Int
def LL_tin (κ:KT_tin) (φ:FT_tin) (L:LTab):LTab:=addLn 0 109 p_tin [1,5,6,7,8,17,18,19,24,25,26] (told_tin κ φ) L
def phi_tin (ys:List Int) (zs:List Int) (j:Int) (x:Int) (c:Int) (xs:List Int) (n:Int) (k:Int) (us:List Int) (m:Int) (i:Int):Int×Int×List Int:=Classical.epsilon fun ρ=>LoopTo Tryz.prog (lb 109 p_tin) (sh_tin ys zs j x c xs n k us m i) (hp_tin ys zs j x c xs n k us m i) (.exit 2) (sh_tin ys (ρ.2.2) j x (ρ.1) xs n k us m (ρ.2.1)) (hp_tin ys (ρ.2.2) j x (ρ.1) xs n k us m (ρ.2.1))∧post_tin ys zs j x c xs n k us m i ρ
theorem phi_tin_spec (ys:List Int) (zs:List Int) (j:Int) (x:Int) (c:Int) (xs:List Int) (n:Int) (k:Int) (us:List Int) (m:Int) (i:Int) (h:pre_tin ys zs j x c xs n k us m i):LoopTo Tryz.prog (lb 109 p_tin) (sh_tin ys zs j x c xs n k us m i) (hp_tin ys zs j x c xs n k us m i) (.exit 2) (sh_tin ys ((phi_tin ys zs j x c xs n k us m i).2.2) j x ((phi_tin ys zs j x c xs n k us m i).1) xs n k us m ((phi_tin ys zs j x c xs n k us m i).2.1)) (hp_tin ys ((phi_tin ys zs j x c xs n k us m i).2.2) j x ((phi_tin ys zs j x c xs n k us m i).1) xs n k us m ((phi_tin ys zs j x c xs n k us m i).2.1))∧post_tin ys zs j x c xs n k us m i (phi_tin ys zs j x c xs n k us m i):=Classical.epsilon_spec (loop_tin ys zs j x c xs n k us m i h)
def cond_tin (ys:List Int) (zs:List Int) (j:Int) (x:Int) (c:Int) (xs:List Int) (n:Int) (k:Int) (us:List Int) (m:Int) (i:Int):Bool:= @decide (pre_tin ys zs j x c xs n k us m i) (Classical.propDecidable _)
theorem cond_tin_eq (ys:List Int) (zs:List Int) (j:Int) (x:Int) (c:Int) (xs:List Int) (n:Int) (k:Int) (us:List Int) (m:Int) (i:Int) (h:pre_tin ys zs j x c xs n k us m i):cond_tin ys zs j x c xs n k us m i=true:= @decide_eq_true _ (Classical.propDecidable _) h
theorem told_tin_ok (T:List AV) (H:Hp) (e:Ex) (T1:List AV) (H1:Hp) (h:told_tin cond_tin phi_tin T H=some (true,e,T1,H1)):V.Ends Tryz.prog false 0 0 (.loop (lb 109 p_tin)) T H e T1 H1:=by
 unfold told_tin at h
 split at h
 ·rename_i m_ys f_ys m_zs j x c m_xs f_xs n k m_us f_us m i zs h1 h5 h6 h7 h8 h17 h18 h19 h24 h25 h26
  rw [Bool.cond_eq_ite] at h
  split at h
  ·rename_i hlen
   rw [beq_iff_eq] at hlen
   simp only [Option.some.injEq,Prod.mk.injEq,Bool.and_eq_true,decide_eq_true_eq] at h
   obtain ⟨⟨⟨⟨⟨k1,k2⟩,k3⟩,k4⟩,k5⟩,rfl,rfl,rfl⟩:=h
   have kc:= @of_decide_eq_true _ (Classical.propDecidable _) k5
   refine Ends.pre (phi_tin_spec (rowOf m_ys f_ys) zs j x c (rowOf m_xs f_xs) n k (rowOf m_us f_us) m i kc).1.ends (fun α B w D ys hr=>slots_rel hlen (fun p hp y hy=> ?_) hr)
   simp only [List.mem_cons,List.not_mem_nil,or_false] at hp
   rcases hp with rfl | rfl | rfl | rfl | rfl | rfl | rfl | rfl | rfl | rfl | rfl
   ·rw [h1] at hy;rw [rowOf_len];exact row_norm cells129 k1 hy
   ·rw [h5] at hy;rw [← k4];exact hy
   ·rw [h6] at hy;exact hy
   ·rw [h7] at hy;exact hy
   ·rw [h8] at hy;exact hy
   ·rw [h17] at hy;rw [rowOf_len];exact row_norm cells129 k2 hy
   ·rw [h18] at hy;exact hy
   ·rw [h19] at hy;exact hy
   ·rw [h24] at hy;rw [rowOf_len];exact row_norm cells129 k3 hy
   ·rw [h25] at hy;exact hy
   ·rw [h26] at hy;exact hy
  ·cases h
 ·cases h
theorem LL_tin_ok {L:LTab} (h:LOk Tryz.prog L):LOk Tryz.prog (LL_tin cond_tin phi_tin L):=h.add2n body_tin told_tin_ok
def ETi (κ:KT_tin) (φ:FT_tin):Env:= ⟨noC,Kall,LL_tin κ φ noL⟩
abbrev p_tout:List Bool:= [false,true,false,true,true]
def sh_tout (ys:List Int) (zs:List Int) (xs:List Int) (n:Int) (i:Int):List AV:=slots 67 [(1, .lst false 129 ys.length (lim ys)),(5, .sl false 129 0 0 zs.length),(17, .lst false 129 xs.length (lim xs)),(18, .val (.int .i64 n)),(19, .val (.int .i64 i))]
def hp_tout (ys:List Int) (zs:List Int) (xs:List Int) (n:Int) (i:Int):Hp:= [.row (.ints .u32 zs) 129 .live]
theorem body_tout:subC Tryz.prog 109 p_tout=some (.loop (lb 109 p_tout)):=by kernel_rfl
theorem code_tout:subC Tryz.prog 109 (false :: p_tout)=some (lb 109 p_tout):=by kernel_rfl
theorem round_tout (κ:KT_tin) (φ:FT_tin) (ys:List Int) (zs:List Int) (xs:List Int) (n:Int) (i:Int):letI q_2:=(rowOf ys.length (lim ys));letI q_1:=(φ q_2 zs i (xs.getD i.toNat (0:Int)) (0:Int) (rowOf xs.length (lim xs)) n i q_2 (↑ys.length:Int) (0:Int));
  (roundA Tryz.prog (ETi κ φ) 109 [1,5,17,18,19] (lb 109 p_tout) (false :: p_tout) (sh_tout ys zs xs n i) (hp_tout ys zs xs n i)=(bif decide (i < n) then (bif decide ((0:Int)≤i)&&decide (i < (↑xs.length:Int)) then (bif okB ys.length (lim ys)&&okB xs.length (lim xs)&&okB ys.length (lim ys)&&decide (zs.length=zs.length)&&κ q_2 zs i (xs.getD i.toNat (0:Int)) (0:Int) (rowOf xs.length (lim xs)) n i q_2 (↑ys.length:Int) (0:Int) then (bif inR IntKind.i64 (i+(↑q_2.length:Int)) then (bif decide ((0:Int)≤i+(↑q_2.length:Int))&&decide (i+(↑q_2.length:Int) < (↑q_1.snd.snd.length:Int)) then (bif decide ((0:Nat)+(i+(↑q_2.length:Int)).toNat*(1:Nat) < q_1.snd.snd.length) then (bif inR IntKind.i64 (i+(1:Int)) then some (.normal,slots 67 [(1,(.lst false 129 (q_2.length) (lim q_2))),(5,(.sl false 129 0 0 (q_1.snd.snd.length))),(17,(.lst false 129 ((rowOf xs.length (lim xs)).length) (lim (rowOf xs.length (lim xs))))),(18,(.val (.int .i64 n))),(19,(.val (.int .i64 (i+(1:Int)))))], [(.row (.ints .u32 (q_1.snd.snd.set ((0:Nat)+(i+(↑q_2.length:Int)).toNat*(1:Nat)) (IntKind.u32.wrap q_1.fst))) 129 .live)]) else none) else none) else none) else none) else none) else none) else some ((.exit 0),slots 67 [(1,(.lst false 129 ys.length (lim ys))),(5,(.sl false 129 0 0 zs.length)),(17,(.lst false 129 xs.length (lim xs))),(18,(.val (.int .i64 n))),(19,(.val (.int .i64 i)))], [(.row (.ints .u32 zs) 129 .live)]))):=by kernel_rfl
theorem step_tout {ys:List Int} {zs:List Int} {xs:List Int} {n:Int} {i:Int} {e:Ex} {T:List AV} {H:Hp} (h:roundA Tryz.prog (ETi cond_tin phi_tin) 109 [1,5,17,18,19] (lb 109 p_tout) (false :: p_tout) (sh_tout ys zs xs n i) (hp_tout ys zs xs n i)=some (e,T,H)):V.Ends Tryz.prog false 0 0 (lb 109 p_tout) (sh_tout ys zs xs n i) (hp_tout ys zs xs n i) e T H:=
 round_ends (meets_none _) (LL_tin_ok LOk.none).ok mixed code_tout h
def pre_tout (ys zs xs:List Int) (n i:Int):Prop:=
 okL ys∧okL xs∧xs.length+ys.length≤17592186044416∧n=xs.length∧i=0∧zs=List.replicate (xs.length+ys.length) 0
def post_tout (ys zs xs:List Int) (n i:Int) (r:Int×List Int):Prop:=okL r.2∧r.2.length=xs.length+ys.length∧vL r.2=vL xs*vL ys
theorem tout_go (ys xs:List Int) (hy:okL ys) (hx:okL xs) (hb:xs.length+ys.length≤17592186044416) (d:Nat):∀ (i:Nat) (out:List Int),i+d=xs.length→okL out→out.length=xs.length+ys.length→vL out=vL (xs.take i)*vL ys→
  ∃ r:Int×List Int,LoopTo Tryz.prog (lb 109 p_tout) (sh_tout ys out xs xs.length i) (hp_tout ys out xs xs.length i) (.exit 0) (sh_tout ys r.2 xs xs.length r.1) (hp_tout ys r.2 xs xs.length r.1)∧
   okL r.2∧r.2.length=xs.length+ys.length∧vL r.2=vL xs*vL ys:=by
 induction d with
 | zero=>
  intro i out hi hok hlen hv
  have hi':i=xs.length:=by omega
  subst hi'
  refine ⟨((xs.length:Int),out), .last (step_tout ?_) (by intro h;cases h),hok,hlen, ?_⟩
  ·rw [round_tout,dF (show ¬ ((xs.length:Int) < xs.length) by omega)]
   rfl
  ·rw [List.take_length] at hv
   exact hv
 | succ d ih=>
  intro i out hi hok hlen hv
  have hil:i < xs.length:=by omega
  obtain ⟨a,ha,hea,hra⟩:=getD_limb hx i hil
  have ht:=vL_take_succ xs i hil
  rw [hea,Int.toNat_natCast] at ht
  have hlt1:=vL_lt (okL_take hx i)
  rw [List.length_take,Nat.min_eq_left (by omega)] at hlt1
  have hlt2:=vL_lt hy
  have hz:out.getD (i+ys.length) 0=0:=by
   obtain ⟨o,ho,heo,hro⟩:=getD_limb hok (i+ys.length) (by omega)
   have h1:=limb_le hok (i+ys.length) (by omega)
   have h2:vL (xs.take i)*vL ys < 4294967296 ^ i*4294967296 ^ ys.length:=Nat.mul_lt_mul'' hlt1 hlt2
   rw [heo,Int.toNat_natCast] at h1
   rw [← Nat.pow_add,← hv] at h2
   have h3:o=0:=by
    rcases Nat.eq_zero_or_pos o with h0 | h0
    ·exact h0
    ·have:=Nat.le_mul_of_pos_right (4294967296 ^ (i+ys.length)) h0
     omega
   rw [hro,h3];rfl
  have hp:pre_tin ys out i a 0 xs xs.length i ys ys.length 0:= ⟨hy,hok,hx,hy,by omega,rfl,rfl,rfl,inU_in ha,i,rfl,by omega⟩
  obtain ⟨_,c1,c2,c3,q,c4,c5,c6⟩:=phi_tin_spec _ _ _ _ _ _ _ _ _ _ _ hp
  have hr:=round_tout cond_tin phi_tin ys out xs xs.length i
  simp only [rowOf_lim',Nat.mul_one,Nat.zero_add,Int.toNat_natCast,hra,eq_self,decide_true] at hr
  rw [cond_tin_eq _ _ _ _ _ _ _ _ _ _ _ hp] at hr
  generalize phi_tin ys out i a 0 xs xs.length i ys ys.length 0=r at*
  rw [Int.toNat_natCast] at c3 c6
  rw [Int.toNat_natCast] at c6
  have hlq:i+ys.length < r.2.2.length:=by omega
  have HS:=vL_set r.2.2 (i+ys.length) hlq (q:Int)
  have hg:r.2.2[i+ys.length]=0:=by
   rw [← hz,← c3,List.getD_eq_getElem?_getD,List.getElem?_eq_getElem hlq];rfl
  rw [hg] at HS
  simp only [Int.toNat_natCast,Int.toNat_zero,Nat.mul_zero,Nat.add_zero] at HS
  obtain ⟨r2,h1,h2⟩:=ih (i+1) (r.2.2.set (i+ys.length) (q:Int)) (by omega) (okL_set c1 _ _ (by omega) (by omega)) (by rw [List.length_set];omega) (by
   rw [HS,c6,hv,ht];grind)
  refine ⟨r2, .more (step_tout ?_) h1,h2⟩
  clear h1 h2 ih HS
  have e1:(i:Int)+(ys.length:Int)=((i+ys.length:Nat):Int):=by omega
  have i1:inR .i64 ((i:Int)+1)=true:=i64T (by omega)
  have i2:inR .i64 ((i+ys.length:Nat):Int)=true:=i64T (by omega)
  rw [okB_lim hy,okB_lim hx,e1,Int.toNat_natCast,i1,i2,dT (show (i:Int) < xs.length by omega),dT (show (0:Int)≤(i:Int) by omega),dT (show (0:Int)≤((i+ys.length:Nat):Int) by omega),dT (show ((i+ys.length:Nat):Int) < (r.2.2.length:Int) by omega),dT hlq,c5,u32w,Nat.mod_eq_of_lt c4] at hr
  rw [hr]
  unfold sh_tout hp_tout
  rw [List.length_set]
  rfl
theorem loop_tout (ys zs xs:List Int) (n i:Int) (h:pre_tout ys zs xs n i):∃ r:Int×List Int,LoopTo Tryz.prog (lb 109 p_tout) (sh_tout ys zs xs n i) (hp_tout ys zs xs n i) (.exit 0) (sh_tout ys r.2 xs n r.1) (hp_tout ys r.2 xs n r.1)∧post_tout ys zs xs n i r:=by
 obtain ⟨h1,h2,h3,rfl,rfl,rfl⟩:=h
 exact tout_go ys xs h1 h2 h3 xs.length 0 _ (by omega) (okL_replicate _) (by simp) (by rw [vL_replicate];simp [vL_nil])
def told_tout (κ:List Int→List Int→List Int→Int→Int→Bool) (φ:List Int→List Int→List Int→Int→Int→Int×List Int) (T:List AV) (H:Hp):Option (Bool×Ex×List AV×Hp):=
 match lget T 1,lget T 5,lget T 17,lget T 18,lget T 19,H with
 | .lst false 129 m_ys f_ys, .sl false 129 0 0 m_zs, .lst false 129 m_xs f_xs, .val (.int .i64 n), .val (.int .i64 i), [.row (.ints .u32 zs) 129 .live]=>bif T.length==67 then some (okB m_ys f_ys&&okB m_xs f_xs&&decide (m_zs=zs.length)&&κ (rowOf m_ys f_ys) zs (rowOf m_xs f_xs) n i, .exit 0,sh_tout (rowOf m_ys f_ys) ((φ (rowOf m_ys f_ys) zs (rowOf m_xs f_xs) n i).2) (rowOf m_xs f_xs) n ((φ (rowOf m_ys f_ys) zs (rowOf m_xs f_xs) n i).1),hp_tout (rowOf m_ys f_ys) ((φ (rowOf m_ys f_ys) zs (rowOf m_xs f_xs) n i).2) (rowOf m_xs f_xs) n ((φ (rowOf m_ys f_ys) zs (rowOf m_xs f_xs) n i).1)) else none
 | _,_,_,_,_,_=>none
abbrev KT_tout:Type:=List Int→List Int→List Int→Int→Int→Bool
abbrev FT_tout:Type:=List Int→List Int→List Int→Int→Int→Int×List Int
def LL_tout (κ:KT_tout) (φ:FT_tout) (L:LTab):LTab:=addLn 0 109 p_tout [1,5,17,18,19] (told_tout κ φ) L
def phi_tout (ys:List Int) (zs:List Int) (xs:List Int) (n:Int) (i:Int):Int×List Int:=Classical.epsilon fun ρ=>LoopTo Tryz.prog (lb 109 p_tout) (sh_tout ys zs xs n i) (hp_tout ys zs xs n i) (.exit 0) (sh_tout ys (ρ.2) xs n (ρ.1)) (hp_tout ys (ρ.2) xs n (ρ.1))∧post_tout ys zs xs n i ρ
theorem phi_tout_spec (ys:List Int) (zs:List Int) (xs:List Int) (n:Int) (i:Int) (h:pre_tout ys zs xs n i):LoopTo Tryz.prog (lb 109 p_tout) (sh_tout ys zs xs n i) (hp_tout ys zs xs n i) (.exit 0) (sh_tout ys ((phi_tout ys zs xs n i).2) xs n ((phi_tout ys zs xs n i).1)) (hp_tout ys ((phi_tout ys zs xs n i).2) xs n ((phi_tout ys zs xs n i).1))∧post_tout ys zs xs n i (phi_tout ys zs xs n i):=Classical.epsilon_spec (loop_tout ys zs xs n i h)
def cond_tout (ys:List Int) (zs:List Int) (xs:List Int) (n:Int) (i:Int):Bool:= @decide (pre_tout ys zs xs n i) (Classical.propDecidable _)
theorem cond_tout_eq (ys:List Int) (zs:List Int) (xs:List Int) (n:Int) (i:Int) (h:pre_tout ys zs xs n i):cond_tout ys zs xs n i=true:= @decide_eq_true _ (Classical.propDecidable _) h
theorem told_tout_ok (T:List AV) (H:Hp) (e:Ex) (T1:List AV) (H1:Hp) (h:told_tout cond_tout phi_tout T H=some (true,e,T1,H1)):V.Ends Tryz.prog false 0 0 (.loop (lb 109 p_tout)) T H e T1 H1:=by
 unfold told_tout at h
 split at h
 ·rename_i m_ys f_ys m_zs m_xs f_xs n i zs h1 h5 h17 h18 h19
  rw [Bool.cond_eq_ite] at h
  split at h
  ·rename_i hlen
   rw [beq_iff_eq] at hlen
   simp only [Option.some.injEq,Prod.mk.injEq,Bool.and_eq_true,decide_eq_true_eq] at h
   obtain ⟨⟨⟨⟨k1,k2⟩,k3⟩,k4⟩,rfl,rfl,rfl⟩:=h
   have kc:= @of_decide_eq_true _ (Classical.propDecidable _) k4
   refine Ends.pre (phi_tout_spec (rowOf m_ys f_ys) zs (rowOf m_xs f_xs) n i kc).1.ends (fun α B w D ys hr=>slots_rel hlen (fun p hp y hy=> ?_) hr)
   simp only [List.mem_cons,List.not_mem_nil,or_false] at hp
   rcases hp with rfl | rfl | rfl | rfl | rfl
   ·rw [h1] at hy;rw [rowOf_len];exact row_norm cells129 k1 hy
   ·rw [h5] at hy;rw [← k3];exact hy
   ·rw [h17] at hy;rw [rowOf_len];exact row_norm cells129 k2 hy
   ·rw [h18] at hy;exact hy
   ·rw [h19] at hy;exact hy
  ·cases h
 ·cases h
theorem LL_tout_ok {L:LTab} (h:LOk Tryz.prog L):LOk Tryz.prog (LL_tout cond_tout phi_tout L):=h.add2n body_tout told_tout_ok
def ETo (S:Sg) (κ:KT_tout) (φ:FT_tout):Env:= ⟨CT S,Kall,LL_tout κ φ noL⟩
theorem times_call (S:Sg) (κ:KT_tout) (φ:FT_tout) (xs ys:List Int):letI q_2:=((↑xs.length:Int)+(↑ys.length:Int));letI q_1:=(φ (rowOf ys.length (lim ys)) (List.replicate q_2.toNat (0:Int)) (rowOf xs.length (lim xs)) (↑xs.length:Int) (0:Int));
  (callA Tryz.prog (ETo S κ φ) 10 10 109 [.lst false 129 xs.length (lim xs), .lst false 129 ys.length (lim ys)]=(bif inR IntKind.i64 q_2 then (bif decide ((↑xs.length:Int)+(↑ys.length:Int)≤(↑xs.length:Int)+(↑ys.length:Int))&&decide ((4:Int)*q_2≤(281474976710656:Int))&&decide ((↑xs.length:Int)+(↑ys.length:Int)≤(9223372036854775807:Int)) then (bif okB ys.length (lim ys)&&okB xs.length (lim xs)&&decide (q_2.toNat=(List.replicate q_2.toNat (0:Int)).length)&&κ (rowOf ys.length (lim ys)) (List.replicate q_2.toNat (0:Int)) (rowOf xs.length (lim xs)) (↑xs.length:Int) (0:Int) then (bif decide ((0:Nat)+q_1.snd.length*(1:Nat)≤q_1.snd.length) then (bif S.okr q_1.snd.length (lim q_1.snd) then some (.lst false 129 (S.len (S.num q_1.snd.length (lim q_1.snd))) (S.row (S.num q_1.snd.length (lim q_1.snd)))) else none) else none) else none) else none) else none)):=by kernel_rfl
def tTimes (S:Sg) (args:List AV):Option (Bool×AV):=match args with | [.lst _ 129 m f, .lst _ 129 n g]=>some (S.oks m f&&S.oks n g,S.lmb (S.num m f*S.num n g)) | _=>none
theorem eTimes:Entry Tryz.prog 109 (tTimes sg0):=by
 refine entry_to (E:=ETo sg0 cond_tout phi_tout) (u:=10) (d:=10) CT_ok (LL_tout_ok LOk.none).ok (by kernel_rfl) (fun args r h=> ?_)
 unfold tTimes at h
 split at h
 ·rename_i fl m f fl2 n g
  simp only [Option.some.injEq,Prod.mk.injEq,Bool.and_eq_true,decide_eq_true_eq] at h
  obtain ⟨⟨h1,h2⟩,rfl⟩:=h
  obtain ⟨a1,a2,a3,a4⟩:=oks_out h1
  obtain ⟨b1,b2,b3,b4⟩:=oks_out h2
  have hp:pre_tout (rowOf n g) (List.replicate ((rowOf m f).length+(rowOf n g).length) 0) (rowOf m f) (rowOf m f).length 0:= ⟨b2,a2,by omega,rfl,rfl,rfl⟩
  obtain ⟨_,c1,c2,c3⟩:=phi_tout_spec _ _ _ _ _ hp
  have hcall:=times_call sg0 cond_tout phi_tout (rowOf m f) (rowOf n g)
  have e1:((rowOf m f).length:Int)+((rowOf n g).length:Int)=(((rowOf m f).length+(rowOf n g).length:Nat):Int):=by omega
  simp only [rowOf_lim',Nat.mul_one,Nat.zero_add,e1,Int.toNat_natCast,List.length_replicate,eq_self,decide_true] at hcall
  rw [cond_tout_eq _ _ _ _ _ hp] at hcall
  generalize phi_tout (rowOf n g) (List.replicate ((rowOf m f).length+(rowOf n g).length) 0) (rowOf m f) (rowOf m f).length 0=r at*
  rw [okB_lim a2,okB_lim b2,i64L _ (by omega),dT (show (((rowOf m f).length+(rowOf n g).length:Nat):Int)≤(((rowOf m f).length+(rowOf n g).length:Nat):Int) by omega),dT (show (4:Int)*(((rowOf m f).length+(rowOf n g).length:Nat):Int)≤281474976710656 by omega),dT (show (((rowOf m f).length+(rowOf n g).length:Nat):Int)≤9223372036854775807 by omega),dT (show r.2.length≤r.2.length by omega),okr_lim c1 (by omega),num_lim,c3] at hcall
  refine ⟨_,_,hcall,fun B w ys hr=> ?_,fun B w y hr=>by rw [a4,b4];exact hr⟩
  obtain ⟨y,zs,rfl,q1,q2⟩:=hr
  obtain ⟨y2,zs,rfl,q3,q4⟩:=q2
  exact ⟨y,_,rfl,norm_row a1 q1,y2,_,rfl,norm_row b1 q3,q4⟩
 ·cases h
end
end Go.Proofs.YtamcpiicmfielaaGreat.L
namespace Go.Proofs.YtamcpiicmfielaaGreat.L
open Go Go.V Go.RowKit Go.Proofs.YtamcpiicmfielaaGreat.Sp Go.Proofs.YtamcpiicmfielaaGreat.F Go.Proofs.YtamcpiicmfielaaGreatW.PrintWords
open Go.Proofs (Tryz.prog)
noncomputable section
abbrev p_little:List Bool:= [false,true,false,true,true,true]
def sh_little (v:Int) (n:Int) (i:Int) (b:Bool) (s:ByteArray):List AV:=slots 30 [(1, .ptr 0 0),(4, .val (.int .i64 v)),(12, .val (.int .i64 n)),(13, .val (.int .i64 i))]
def hp_little (v:Int) (n:Int) (i:Int) (b:Bool) (s:ByteArray):Hp:= [.row (.cells [.val (.bool b), .val (.string s)]) 81 .live]
theorem body_little:subC Tryz.prog 117 p_little=some (.loop (lb 117 p_little)):=by kernel_rfl
theorem code_little:subC Tryz.prog 117 (false :: p_little)=some (lb 117 p_little):=by kernel_rfl
theorem round_little (v:Int) (n:Int) (i:Int) (b:Bool) (s:ByteArray):roundA Tryz.prog EL0 117 [1,4,12,13] (lb 117 p_little) (false :: p_little) (sh_little v n i b s) (hp_little v n i b s)=
  (bif decide (i < n) then (bif inR IntKind.i64 (v*(256:Int)) then (bif decide ((0:Int)≤i)&&decide (i < (↑s.size:Int)) then (bif inR IntKind.i64 (byteAt s i.toNat) then (bif inR IntKind.i64 (i+(1:Int)) then some (.normal,slots 30 [(1,(.ptr 0 0)),(4,(.val (.int .i64 (bitI BinOp.or IntKind.i64 (v*(256:Int)) (byteAt s i.toNat))))),(12,(.val (.int .i64 n))),(13,(.val (.int .i64 (i+(1:Int)))))], [(.row (.cells [(.val (.bool b)),(.val (.string s))]) 81 .live)]) else none) else none) else none) else none) else some ((.exit 0),slots 30 [(1,(.ptr 0 0)),(4,(.val (.int .i64 v))),(12,(.val (.int .i64 n))),(13,(.val (.int .i64 i)))], [(.row (.cells [(.val (.bool b)),(.val (.string s))]) 81 .live)])):=by kernel_rfl
theorem step_little {v:Int} {n:Int} {i:Int} {b:Bool} {s:ByteArray} {e:Ex} {T:List AV} {H:Hp} (h:roundA Tryz.prog EL0 117 [1,4,12,13] (lb 117 p_little) (false :: p_little) (sh_little v n i b s) (hp_little v n i b s)=some (e,T,H)):V.Ends Tryz.prog false 0 0 (lb 117 p_little) (sh_little v n i b s) (hp_little v n i b s) e T H:=
 round_ends (meets_none _) loops_none mixed code_little h
def pre_little (v n i:Int) (b:Bool) (s:ByteArray):Prop:=s.size≤7∧n=s.size∧v=0∧i=0
def post_little (v n i:Int) (b:Bool) (s:ByteArray) (r:Int×Int):Prop:=r.1=(vS s:Nat)
theorem vB_take_succ (s:ByteArray) (i:Nat) (h:i < s.size):(vB (s.data.toList.take (i+1)):Int)=(vB (s.data.toList.take i):Int)*256+byteAt s i:=by
 have hl:i < s.data.toList.length:=by rw [Array.length_toList];exact h
 rw [List.take_succ_eq_append_getElem hl,vB_snoc]
 unfold byteAt
 rw [List.getD_eq_getElem?_getD,List.getElem?_eq_getElem hl,Option.getD_some]
 omega
theorem or_i64 (v b:Nat) (hv:v < 36028797018963968) (hb:b < 256):bitI .or .i64 ((v:Int)*256) (b:Int)=((v*256+b:Nat):Int):=by
 have e3:Go.bits .or .i64 ((v*256:Nat):Int) ((b:Nat):Int)=((v*256+b:Nat):Int):=by
  have:=bits_join .i64 63 (by decide) (fun n h1 h2=>by rw [IntKind.wrap_i64];omega) 8 ((v*256:Nat):Int) ((b:Nat):Int) (by omega) (by omega) (by omega) (by omega) (by omega) (by omega)
  rw [this];omega
 rw [Int.natCast_mul] at e3
 exact e3
theorem little_go (s:ByteArray) (b:Bool) (hs:s.size≤7) (d:Nat):∀ i:Nat,i+d=s.size→∃ r:Int×Int,LoopTo Tryz.prog (lb 117 p_little) (sh_little (vB (s.data.toList.take i):Nat) s.size i b s) (hp_little (vB (s.data.toList.take i):Nat) s.size i b s) (.exit 0) (sh_little r.1 s.size r.2 b s) (hp_little r.1 s.size r.2 b s)∧r.1=(vS s:Nat):=by
 induction d with
 | zero=>
  intro i hi
  have hi':i=s.size:=by omega
  subst hi'
  have e:s.data.toList.take s.size=s.data.toList:=List.take_of_length_le (by rw [Array.length_toList];exact Nat.le_refl _)
  refine ⟨((vB (s.data.toList.take s.size):Nat),(s.size:Int)), .last (step_little ?_) (by intro h;cases h),by rw [e];rfl⟩
  rw [round_little,dF (show ¬ ((s.size:Int) < s.size) by omega)]
  rfl
 | succ d ih=>
  intro i hi
  obtain ⟨r,h1,h2⟩:=ih (i+1) (by omega)
  refine ⟨r, .more (step_little ?_) h1,h2⟩
  rw [round_little]
  have hb:=byteAt_lt s i
  have hv:vB (s.data.toList.take i) < 256 ^ 6:=by
   refine Nat.lt_of_lt_of_le (vB_lt _) (Nat.pow_le_pow_right (by decide) ?_)
   rw [List.length_take,Array.length_toList]
   have:s.data.size=s.size:=rfl
   omega
  have hsucc:=vB_take_succ s i (by omega)
  obtain ⟨c,hc⟩:∃ c:Nat,byteAt s i=c:= ⟨(byteAt s i).toNat,by omega⟩
  rw [hc] at hb hsucc
  rw [Int.toNat_natCast,hc,or_i64 _ _ (by omega) (by omega),i64T (show -9223372036854775808≤((vB (s.data.toList.take i):Nat):Int)*256∧((vB (s.data.toList.take i):Nat):Int)*256≤9223372036854775807 by omega),i64T (show -9223372036854775808≤(c:Int)∧(c:Int)≤9223372036854775807 by omega),i64T (show -9223372036854775808≤(i:Int)+1∧(i:Int)+1≤9223372036854775807 by omega),dT (show (i:Int) < s.size by omega),dT (show (0:Int)≤(i:Int) by omega)]
  have e:vB (s.data.toList.take (i+1))=vB (s.data.toList.take i)*256+c:=by omega
  rw [e]
  rfl
theorem loop_little (v n i:Int) (b:Bool) (s:ByteArray) (h:pre_little v n i b s):∃ r:Int×Int,LoopTo Tryz.prog (lb 117 p_little) (sh_little v n i b s) (hp_little v n i b s) (.exit 0) (sh_little r.1 n r.2 b s) (hp_little r.1 n r.2 b s)∧post_little v n i b s r:=by
 obtain ⟨h1,rfl,rfl,rfl⟩:=h
 exact little_go s b h1 s.size 0 (by omega)
def told_little (κ:Int→Int→Int→Bool→ByteArray→Bool) (φ:Int→Int→Int→Bool→ByteArray→Int×Int) (T:List AV) (H:Hp):Option (Bool×Ex×List AV×Hp):=
 match lget T 1,lget T 4,lget T 12,lget T 13,H with
 | .ptr 0 0, .val (.int .i64 v), .val (.int .i64 n), .val (.int .i64 i), [.row (.cells [.val (.bool b), .val (.string s)]) 81 .live]=>bif T.length==30 then some (κ v n i b s, .exit 0,sh_little ((φ v n i b s).1) n ((φ v n i b s).2) b s,hp_little ((φ v n i b s).1) n ((φ v n i b s).2) b s) else none
 | _,_,_,_,_=>none
abbrev KT_little:Type:=Int→Int→Int→Bool→ByteArray→Bool
abbrev FT_little:Type:=Int→Int→Int→Bool→ByteArray→Int×Int
def LL_little (κ:KT_little) (φ:FT_little) (L:LTab):LTab:=addLn 0 117 p_little [1,4,12,13] (told_little κ φ) L
def phi_little (v:Int) (n:Int) (i:Int) (b:Bool) (s:ByteArray):Int×Int:=Classical.epsilon fun ρ=>LoopTo Tryz.prog (lb 117 p_little) (sh_little v n i b s) (hp_little v n i b s) (.exit 0) (sh_little (ρ.1) n (ρ.2) b s) (hp_little (ρ.1) n (ρ.2) b s)∧post_little v n i b s ρ
theorem phi_little_spec (v:Int) (n:Int) (i:Int) (b:Bool) (s:ByteArray) (h:pre_little v n i b s):LoopTo Tryz.prog (lb 117 p_little) (sh_little v n i b s) (hp_little v n i b s) (.exit 0) (sh_little ((phi_little v n i b s).1) n ((phi_little v n i b s).2) b s) (hp_little ((phi_little v n i b s).1) n ((phi_little v n i b s).2) b s)∧post_little v n i b s (phi_little v n i b s):=Classical.epsilon_spec (loop_little v n i b s h)
def cond_little (v:Int) (n:Int) (i:Int) (b:Bool) (s:ByteArray):Bool:= @decide (pre_little v n i b s) (Classical.propDecidable _)
theorem cond_little_eq (v:Int) (n:Int) (i:Int) (b:Bool) (s:ByteArray) (h:pre_little v n i b s):cond_little v n i b s=true:= @decide_eq_true _ (Classical.propDecidable _) h
theorem told_little_ok (T:List AV) (H:Hp) (e:Ex) (T1:List AV) (H1:Hp) (h:told_little cond_little phi_little T H=some (true,e,T1,H1)):V.Ends Tryz.prog false 0 0 (.loop (lb 117 p_little)) T H e T1 H1:=by
 unfold told_little at h
 split at h
 ·rename_i v n i b s h1 h4 h12 h13
  rw [Bool.cond_eq_ite] at h
  split at h
  ·rename_i hlen
   rw [beq_iff_eq] at hlen
   simp only [Option.some.injEq,Prod.mk.injEq,Bool.and_eq_true,decide_eq_true_eq] at h
   obtain ⟨k1,rfl,rfl,rfl⟩:=h
   have kc:= @of_decide_eq_true _ (Classical.propDecidable _) k1
   refine Ends.pre (phi_little_spec v n i b s kc).1.ends (fun α B w D ys hr=>slots_rel hlen (fun p hp y hy=> ?_) hr)
   simp only [List.mem_cons,List.not_mem_nil,or_false] at hp
   rcases hp with rfl | rfl | rfl | rfl
   ·rw [h1] at hy;exact hy
   ·rw [h4] at hy;exact hy
   ·rw [h12] at hy;exact hy
   ·rw [h13] at hy;exact hy
  ·cases h
 ·cases h
theorem LL_little_ok {L:LTab} (h:LOk Tryz.prog L):LOk Tryz.prog (LL_little cond_little phi_little L):=h.add2n body_little told_little_ok
def ELi (κ:KT_little) (φ:FT_little):Env:= ⟨noC,Kall,LL_little κ φ noL⟩
theorem little_t (κ:KT_little) (φ:FT_little) (s:ByteArray):callA Tryz.prog (ELi κ φ) 10 10 117 [.agg [.val (.bool true), .val (.string s)]]=
  (bif decide ((7:Int) < (↑s.size:Int)) then some (.tup [(.val (.int .i64 0)),(.val (.bool false))]) else (bif κ (0:Int) (↑s.size:Int) (0:Int) true s then some (.tup [(.val (.int .i64 (IntKind.i64.wrap ((0:Int) - (φ (0:Int) (↑s.size:Int) (0:Int) true s).fst)))),(.val (.bool true))]) else none)):=by kernel_rfl
theorem little_f (κ:KT_little) (φ:FT_little) (s:ByteArray):callA Tryz.prog (ELi κ φ) 10 10 117 [.agg [.val (.bool false), .val (.string s)]]=
  (bif decide ((7:Int) < (↑s.size:Int)) then some (.tup [(.val (.int .i64 0)),(.val (.bool false))]) else (bif κ (0:Int) (↑s.size:Int) (0:Int) false s then some (.tup [(.val (.int .i64 ((φ (0:Int) (↑s.size:Int) (0:Int) false s).fst))),(.val (.bool true))]) else none)):=by kernel_rfl
structure Sl where
 b:Bool→ByteArray→Bool
 v:Bool→ByteArray→Int
def sl0:Sl where
 b _ s:=decide (s.size≤7)
 v b s:=if s.size≤7 then Sp.val b s else 0
def tLittle (Z:Sl) (args:List AV):Option (Bool×AV):=match args with | [.agg [.val (.bool b), .val (.string s)]]=>some (decide (s.size≤140737488355328), .tup [.val (.int .i64 (Z.v b s)), .val (.bool (Z.b b s))]) | _=>none
theorem vS_small {s:ByteArray} (h:s.size≤7):vS s < 72057594037927936:=Nat.lt_of_lt_of_le (vS_lt s) (Nat.pow_le_pow_right (by decide:0 < 256) h)
theorem eLittle:Entry Tryz.prog 117 (tLittle sl0):=by
 refine entry_of (E:=ELi cond_little phi_little) (u:=10) (d:=10) (meets_none _) (LL_little_ok LOk.none).ok mixed (by kernel_rfl) (fun args r h=> ?_)
 unfold tLittle at h
 split at h
 ·rename_i b s
  simp only [Option.some.injEq,Prod.mk.injEq,decide_eq_true_eq] at h
  obtain ⟨hb,rfl⟩:=h
  by_cases hs:s.size≤7
  ·have hp:pre_little 0 s.size 0 b s:= ⟨hs,rfl,rfl,rfl⟩
   have h1:=(phi_little_spec _ _ _ _ _ hp).2
   have h2:=vS_small hs
   unfold post_little at h1
   have e1:sl0.v b s=val b s:=if_pos hs
   have e2:sl0.b b s=true:=decide_eq_true hs
   rw [e1,e2]
   cases b with
   | true=>
    rw [little_t,cond_little_eq _ _ _ _ _ hp,h1,dF (show ¬ ((7:Int) < s.size) by omega)]
    refine congrArg some ?_
    have e:IntKind.i64.wrap (0 - ((vS s:Nat):Int))= -((vS s:Nat):Int):=by rw [IntKind.wrap_i64];omega
    show AV.tup [AV.val (.int .i64 (IntKind.i64.wrap (0 - ((vS s:Nat):Int)))),_]=_
    rw [e]
    rfl
   | false=>
    rw [little_f,cond_little_eq _ _ _ _ _ hp,h1,dF (show ¬ ((7:Int) < s.size) by omega)]
    rfl
  ·have e1:sl0.v b s=0:=if_neg hs
   have e2:sl0.b b s=false:=decide_eq_false hs
   rw [e1,e2]
   cases b with
   | true=>rw [little_t,dT (show (7:Int) < s.size by omega)];rfl
   | false=>rw [little_f,dT (show (7:Int) < s.size by omega)];rfl
 ·cases h
def CA (S:Sg) (Z:Sl):FuncId→List AV→Option (Bool×AV):=
 addC 117 (tLittle Z) (addC 106 (tLoad S) (addC 108 (tPack S) (addC 109 (tTimes S) (addC 118 (tPlus S) (addC 119 (tMinus S) (addC 107 (tCompareL S) (addC 69 (tOf S) noC)))))))
theorem CA_ok:Meets Tryz.prog (CA sg0 sl0):=((((((((meets_none _).add eOf).add eCompareL).add eMinus).add ePlus).add eTimes).add ePack).add eLoad).add eLittle
def EA (S:Sg) (Z:Sl):Env:= ⟨CA S Z,Kall,noL⟩
theorem mul_call (S:Sg) (Z:Sl) (b c:Bool) (s t:ByteArray):callA Tryz.prog (EA S Z) 10 10 65 [.agg [.val (.bool b), .val (.string s)], .agg [.val (.bool c), .val (.string t)]]=
  (bif S.ok s then (bif S.ok t then (bif S.oks (S.len (S.vs s)) (S.row (S.vs s))&&S.oks (S.len (S.vs t)) (S.row (S.vs t)) then (bif S.okr (S.len (S.num (S.len (S.vs s)) (S.row (S.vs s))*S.num (S.len (S.vs t)) (S.row (S.vs t)))) (S.row (S.num (S.len (S.vs s)) (S.row (S.vs s))*S.num (S.len (S.vs t)) (S.row (S.vs t)))) then some (.agg [(.val (.bool (S.ng (S.sg (bif true then !b==c else b==c) (S.num (S.len (S.num (S.len (S.vs s)) (S.row (S.vs s))*S.num (S.len (S.vs t)) (S.row (S.vs t)))) (S.row (S.num (S.len (S.vs s)) (S.row (S.vs s))*S.num (S.len (S.vs t)) (S.row (S.vs t))))))))),(.val (.string (S.ms (S.sg (bif true then !b==c else b==c) (S.num (S.len (S.num (S.len (S.vs s)) (S.row (S.vs s))*S.num (S.len (S.vs t)) (S.row (S.vs t)))) (S.row (S.num (S.len (S.vs s)) (S.row (S.vs s))*S.num (S.len (S.vs t)) (S.row (S.vs t)))))))))]) else none) else none) else none) else none):=by kernel_rfl
theorem add_call (S:Sg) (Z:Sl) (b c:Bool) (s t:ByteArray):letI q_2:=(S.num (S.len (S.vs s)) (S.row (S.vs s))+S.num (S.len (S.vs t)) (S.row (S.vs t)));letI q_3:=(S.num (S.len (S.vs t)) (S.row (S.vs t)) - S.num (S.len (S.vs s)) (S.row (S.vs s)));letI q_4:=(S.num (S.len (S.vs s)) (S.row (S.vs s)) - S.num (S.len (S.vs t)) (S.row (S.vs t)));letI q_1:Option AV:=(bif S.ok s then (bif S.ok t then (bif bif false then !b==c else b==c then (bif S.oks (S.len (S.vs s)) (S.row (S.vs s))&&S.oks (S.len (S.vs t)) (S.row (S.vs t)) then (bif S.okr (S.len q_2) (S.row q_2) then some (.agg [(.val (.bool (S.ng (S.sg b (S.num (S.len q_2) (S.row q_2)))))),(.val (.string (S.ms (S.sg b (S.num (S.len q_2) (S.row q_2))))))]) else none) else none) else (bif S.can (S.len (S.vs s)) (S.row (S.vs s))&&S.can (S.len (S.vs t)) (S.row (S.vs t)) then (bif decide (S.cmp (S.num (S.len (S.vs s)) (S.row (S.vs s))) (S.num (S.len (S.vs t)) (S.row (S.vs t))) < (0:Int)) then (bif S.can (S.len (S.vs t)) (S.row (S.vs t))&&S.can (S.len (S.vs s)) (S.row (S.vs s))&&decide (S.num (S.len (S.vs s)) (S.row (S.vs s))≤S.num (S.len (S.vs t)) (S.row (S.vs t))) then (bif S.okr (S.len q_3) (S.row q_3) then some (.agg [(.val (.bool (S.ng (S.sg c (S.num (S.len q_3) (S.row q_3)))))),(.val (.string (S.ms (S.sg c (S.num (S.len q_3) (S.row q_3))))))]) else none) else none) else (bif S.can (S.len (S.vs s)) (S.row (S.vs s))&&S.can (S.len (S.vs t)) (S.row (S.vs t))&&decide (S.num (S.len (S.vs t)) (S.row (S.vs t))≤S.num (S.len (S.vs s)) (S.row (S.vs s))) then (bif S.okr (S.len q_4) (S.row q_4) then some (.agg [(.val (.bool (S.ng (S.sg b (S.num (S.len q_4) (S.row q_4)))))),(.val (.string (S.ms (S.sg b (S.num (S.len q_4) (S.row q_4))))))]) else none) else none)) else none)) else none) else none);
  (callA Tryz.prog (EA S Z) 10 10 75 [.agg [.val (.bool b), .val (.string s)], .agg [.val (.bool c), .val (.string t)]]=(bif decide (s.size≤(140737488355328:Nat)) then (bif Z.b b s then (bif decide (t.size≤(140737488355328:Nat)) then (bif Z.b c t then (bif inR IntKind.i64 (Z.v b s+Z.v c t) then (bif inI (Z.v b s+Z.v c t) then some (.agg [(.val (.bool (S.ng (Z.v b s+Z.v c t)))),(.val (.string (S.ms (Z.v b s+Z.v c t))))]) else none) else none) else q_1) else none) else q_1) else none)):=by kernel_rfl
def tMul (S:Sg) (args:List AV):Option (Bool×AV):=match args with | [.agg [.val (.bool b), .val (.string s)], .agg [.val (.bool c), .val (.string t)]]=>some (S.ok s&&S.ok t,S.int (S.val b s*S.val c t)) | _=>none
def tAdd (S:Sg) (args:List AV):Option (Bool×AV):=match args with | [.agg [.val (.bool b), .val (.string s)], .agg [.val (.bool c), .val (.string t)]]=>some (S.ok s&&S.ok t,S.int (S.val b s+S.val c t)) | _=>none
def tSub (S:Sg) (args:List AV):Option (Bool×AV):=match args with | [.agg [.val (.bool b), .val (.string s)], .agg [.val (.bool c), .val (.string t)]]=>some (S.ok s&&S.ok t,S.int (S.val b s - S.val c t)) | _=>none
theorem ok_out {s:ByteArray} (h:sg0.ok s=true):bs (sg0.vs s)≤8796093022208:=Nat.le_trans (bs_vs s) (of_decide_eq_true h)
theorem eMul:Entry Tryz.prog 65 (tMul sg0):=by
 refine entry_of (E:=EA sg0 sl0) (u:=10) (d:=10) CA_ok loops_none mixed (by kernel_rfl) (fun args r h=> ?_)
 unfold tMul at h
 split at h
 ·rename_i b s c t
  simp only [Option.some.injEq,Prod.mk.injEq,Bool.and_eq_true] at h
  obtain ⟨⟨h1,h2⟩,rfl⟩:=h
  have k1:=ok_out h1
  have k2:=ok_out h2
  have k3:=bs_mul (sg0.vs s) (sg0.vs t)
  have hcall:=mul_call sg0 sl0 b c s t
  simp only [num_row] at hcall
  rw [h1,h2,oks_row k1,oks_row k2,okr_row (by omega)] at hcall
  rw [hcall]
  refine congrArg some ?_
  show sg0.int (sg0.sg _ (sg0.vs s*sg0.vs t))=_
  refine congrArg sg0.int ?_
  show (if _ then -((vS s*vS t:Nat):Int) else ((vS s*vS t:Nat):Int))=Sp.val b s*Sp.val c t
  unfold Sp.val
  cases b <;> cases c <;> simp [Int.neg_mul,Int.mul_neg]
 ·cases h
theorem add_end (b c:Bool) (s t:ByteArray) (h1:sg0.ok s=true) (h2:sg0.ok t=true) (X:Option AV):
  X=(bif sg0.ok s then bif sg0.ok t then bif b==c then (bif sg0.oks (sg0.len (sg0.vs s)) (sg0.row (sg0.vs s))&&sg0.oks (sg0.len (sg0.vs t)) (sg0.row (sg0.vs t)) then bif sg0.okr (sg0.len (sg0.vs s+sg0.vs t)) (sg0.row (sg0.vs s+sg0.vs t)) then some (sg0.int (sg0.sg b (sg0.vs s+sg0.vs t))) else none else none)
   else (bif sg0.can (sg0.len (sg0.vs s)) (sg0.row (sg0.vs s))&&sg0.can (sg0.len (sg0.vs t)) (sg0.row (sg0.vs t)) then
    bif decide (sg0.cmp (sg0.vs s) (sg0.vs t) < 0) then (bif sg0.can (sg0.len (sg0.vs t)) (sg0.row (sg0.vs t))&&sg0.can (sg0.len (sg0.vs s)) (sg0.row (sg0.vs s))&&decide (sg0.vs s≤sg0.vs t) then bif sg0.okr (sg0.len (sg0.vs t - sg0.vs s)) (sg0.row (sg0.vs t - sg0.vs s)) then some (sg0.int (sg0.sg c (sg0.vs t - sg0.vs s))) else none else none)
    else (bif sg0.can (sg0.len (sg0.vs s)) (sg0.row (sg0.vs s))&&sg0.can (sg0.len (sg0.vs t)) (sg0.row (sg0.vs t))&&decide (sg0.vs t≤sg0.vs s) then bif sg0.okr (sg0.len (sg0.vs s - sg0.vs t)) (sg0.row (sg0.vs s - sg0.vs t)) then some (sg0.int (sg0.sg b (sg0.vs s - sg0.vs t))) else none else none)
    else none) else none else none)→X=some (sg0.int (sg0.val b s+sg0.val c t)):=by
 intro hX
 have k1:=ok_out h1
 have k2:=ok_out h2
 have k3:=bs_add (sg0.vs s) (sg0.vs t)
 have k4:=bs_sub (sg0.vs s) (sg0.vs t)
 have k5:=bs_sub (sg0.vs t) (sg0.vs s)
 rw [h1,h2] at hX
 rw [hX]
 have hv:∀ (b:Bool) (s:ByteArray),sg0.val b s=if b=true then -(sg0.vs s:Int) else (sg0.vs s:Int):=fun b s=>rfl
 by_cases hbc:b=c
 ·subst hbc
  rw [beq_self_eq_true,oks_row k1,oks_row k2,okr_row (by omega)]
  show some (sg0.int (if b=true then -((sg0.vs s+sg0.vs t:Nat):Int) else ((sg0.vs s+sg0.vs t:Nat):Int)))=_
  rw [hv,hv]
  cases b
  ·simp
  ·simp only [if_true];congr 2;omega
 ·rw [beq_eq_false_iff_ne.2 hbc,can_row (by omega),can_row (by omega)]
  have hc:∀ a b:Nat,sg0.cmp a b=if a < b then -1 else if b < a then 1 else 0:=fun a b=>rfl
  by_cases hlt:sg0.vs s < sg0.vs t
  ·rw [hc,if_pos hlt,okr_row (n:=sg0.vs t - sg0.vs s) (by omega),dT (show sg0.vs s≤sg0.vs t by omega)]
   show some (sg0.int (if c=true then -((sg0.vs t - sg0.vs s:Nat):Int) else ((sg0.vs t - sg0.vs s:Nat):Int)))=_
   rw [hv,hv]
   congr 2
   cases b <;> cases c <;> first | exact absurd rfl hbc | (simp only [if_true,Bool.false_eq_true,if_false];omega)
  ·rw [hc,if_neg hlt,okr_row (n:=sg0.vs s - sg0.vs t) (by omega),dT (show sg0.vs t≤sg0.vs s by omega),dF (show ¬ ((if sg0.vs t < sg0.vs s then (1:Int) else 0) < 0) by split <;> omega)]
   show some (sg0.int (if b=true then -((sg0.vs s - sg0.vs t:Nat):Int) else ((sg0.vs s - sg0.vs t:Nat):Int)))=_
   rw [hv,hv]
   congr 2
   cases b <;> cases c <;> first | exact absurd rfl hbc | (simp only [if_true,Bool.false_eq_true,if_false];omega)
theorem eAdd:Entry Tryz.prog 75 (tAdd sg0):=by
 refine entry_of (E:=EA sg0 sl0) (u:=10) (d:=10) CA_ok loops_none mixed (by kernel_rfl) (fun args r h=> ?_)
 unfold tAdd at h
 split at h
 ·rename_i b s c t
  simp only [Option.some.injEq,Prod.mk.injEq,Bool.and_eq_true] at h
  obtain ⟨⟨h1,h2⟩,rfl⟩:=h
  have z1:s.size≤8796093022208:=of_decide_eq_true h1
  have z2:t.size≤8796093022208:=of_decide_eq_true h2
  have hcall:=add_call sg0 sl0 b c s t
  simp only [num_row] at hcall
  rw [dT (show s.size≤140737488355328 by omega),dT (show t.size≤140737488355328 by omega)] at hcall
  have e1:∀ b s,sl0.b b s=decide (s.size≤7):=fun b s=>rfl
  have e2:∀ b s,sl0.v b s=if s.size≤7 then sg0.val b s else 0:=fun b s=>rfl
  rw [e1,e1,e2,e2] at hcall
  by_cases q1:s.size≤7
  ·by_cases q2:t.size≤7
   ·have b1:=vS_small q1
    have b2:=vS_small q2
    have c1:(sg0.val b s).natAbs < 72057594037927936:=by rw [← vs_val];exact b1
    have c2:(sg0.val c t).natAbs < 72057594037927936:=by rw [← vs_val];exact b2
    rw [dT q1,dT q2,if_pos q1,if_pos q2,i64T (show -9223372036854775808≤sg0.val b s+sg0.val c t∧sg0.val b s+sg0.val c t≤9223372036854775807 by omega)] at hcall
    unfold inI at hcall
    rw [dT (show -9223372036854775808≤sg0.val b s+sg0.val c t by omega),dT (show sg0.val b s+sg0.val c t≤9223372036854775807 by omega)] at hcall
    exact hcall
   ·rw [dT q1,dF q2] at hcall
    exact add_end b c s t h1 h2 _ hcall
  ·rw [dF q1] at hcall
   exact add_end b c s t h1 h2 _ hcall
 ·cases h
def EB (S:Sg):Env:= ⟨addC 75 (tAdd S) noC,Kall,noL⟩
theorem sub_call (S:Sg) (b c:Bool) (s t:ByteArray):callA Tryz.prog (EB S) 10 10 153 [.agg [.val (.bool b), .val (.string s)], .agg [.val (.bool c), .val (.string t)]]=
  (bif S.ok s&&S.ok t then some (.agg [(.val (.bool (S.ng (S.val b s+S.val (!c) t)))),(.val (.string (S.ms (S.val b s+S.val (!c) t))))]) else none):=by kernel_rfl
theorem eSub:Entry Tryz.prog 153 (tSub sg0):=by
 refine entry_of (E:=EB sg0) (u:=10) (d:=10) ((meets_none _).add eAdd) loops_none mixed (by kernel_rfl) (fun args r h=> ?_)
 unfold tSub at h
 split at h
 ·rename_i b s c t
  simp only [Option.some.injEq,Prod.mk.injEq,Bool.and_eq_true] at h
  obtain ⟨⟨h1,h2⟩,rfl⟩:=h
  have hcall:=sub_call sg0 b c s t
  rw [h1,h2,show sg0.val (!c) t= -sg0.val c t from val_not c t,← Int.sub_eq_add_neg] at hcall
  exact hcall
 ·cases h
end
end Go.Proofs.YtamcpiicmfielaaGreat.L
namespace Go.Proofs.YtamcpiicmfielaaGreat.L
open Go Go.V Go.RowKit Go.Proofs.YtamcpiicmfielaaGreat.Sp Go.Proofs.YtamcpiicmfielaaGreat.F Go.Proofs.YtamcpiicmfielaaGreatW.PrintWords
open Go.Proofs (Tryz.prog)
noncomputable section
def E000:Env:= ⟨noC,Kall,noL⟩
def lenTab:ByteArray:= ⟨⟨[0,1] ++ List.replicate 2 2 ++ List.replicate 4 3 ++ List.replicate 8 4 ++ List.replicate 16 5 ++ List.replicate 32 6 ++ List.replicate 64 7 ++ List.replicate 128 8⟩⟩
def lenG (c y:Int):Option AV:=bif decide (0≤IntKind.u8.wrap y)&&decide (IntKind.u8.wrap y < 256) then bif inR .i64 (byteAt lenTab (IntKind.u8.wrap y).toNat) then bif inR .i64 (c+byteAt lenTab (IntKind.u8.wrap y).toNat) then some (.val (.int .i64 (c+byteAt lenTab (IntKind.u8.wrap y).toNat))) else none else none else none
theorem len32_call (x:Int):callA Tryz.prog E000 10 10 150 [.val (.int .u32 x)]=(bif decide (65536≤x) then bif decide (256≤x.fdiv 65536) then lenG 24 ((x.fdiv 65536).fdiv 256) else lenG 16 (x.fdiv 65536) else bif decide (256≤x) then lenG 8 (x.fdiv 256) else lenG 0 x):=by kernel_rfl
theorem lenTab_at:∀ i:Fin 256,byteAt lenTab i.val=(blen i.val:Int):=by decide +kernel
theorem lenG_at (c y n:Nat) (hy:y < 256) (hc:c≤24) (hl:y=0→c=0∧n=0) (h:IsLen y (blen y)→IsLen n (c+blen y)):lenG c y=some (.val (.int .i64 (blen n))):=by
 have h1:=lenTab_at ⟨y,hy⟩
 have h1:byteAt lenTab y=(blen y:Int):=h1
 have h2:=blen_le (n:=y) (m:=8) hy
 have h3:=(h (blen_is y)).uniq (blen_is n)
 unfold lenG
 rw [u8_wrap,show ((y:Int) % 256)=(y:Int) by omega,Int.toNat_natCast,h1,dT (show (0:Int)≤y by omega),dT (show (y:Int) < 256 by omega),i64T (show -9223372036854775808≤(blen y:Int)∧(blen y:Int)≤9223372036854775807 by omega),i64T (show -9223372036854775808≤(c:Int)+(blen y:Int)∧(c:Int)+(blen y:Int)≤9223372036854775807 by omega),← h3,Int.natCast_add]
 rfl
def tLen32 (S:Sg) (args:List AV):Option (Bool×AV):=match args with | [.val (.int .u32 x)]=>some (inU x, .val (.int .i64 (S.bl x.toNat))) | _=>none
theorem eLen32:Entry Tryz.prog 150 (tLen32 sg0):=by
 refine entry_of (E:=E000) (u:=10) (d:=10) (meets_none _) loops_none mixed (by kernel_rfl) (fun args r h=> ?_)
 unfold tLen32 at h
 split at h
 ·rename_i x
  simp only [Option.some.injEq,Prod.mk.injEq] at h
  obtain ⟨h1,rfl⟩:=h
  obtain ⟨n,hn,rfl⟩:=inU_out h1
  rw [len32_call]
  show _=some (AV.val (.int .i64 ((blen (n:Int).toNat:Nat):Int)))
  rw [Int.toNat_natCast]
  have e1:(n:Int).fdiv 65536=((n / 65536:Nat):Int):=fdivN n 65536
  have e2:(n:Int).fdiv 256=((n / 256:Nat):Int):=fdivN n 256
  have e3:((n / 65536:Nat):Int).fdiv 256=((n / 65536 / 256:Nat):Int):=fdivN _ 256
  rw [e1,e2,e3]
  by_cases c1:65536≤n
  ·rw [dT (show (65536:Int)≤n by omega)]
   by_cases c2:256≤n / 65536
   ·rw [dT (show (256:Int)≤((n / 65536:Nat):Int) by omega)]
    exact lenG_at 24 (n / 65536 / 256) n (by omega) (by omega) (by omega) (fun h=>isLen_shift 24 (by omega) (by omega) h)
   ·rw [dF (show ¬ (256:Int)≤((n / 65536:Nat):Int) by omega)]
    exact lenG_at 16 (n / 65536) n (by omega) (by omega) (by omega) (fun h=>isLen_shift 16 (by omega) (by omega) h)
  ·rw [dF (show ¬ (65536:Int)≤n by omega)]
   by_cases c2:256≤n
   ·rw [dT (show (256:Int)≤(n:Int) by omega)]
    exact lenG_at 8 (n / 256) n (by omega) (by omega) (by omega) (fun h=>isLen_shift 8 (by omega) (by omega) h)
   ·rw [dF (show ¬ (256:Int)≤(n:Int) by omega)]
    exact lenG_at 0 n n (by omega) (by omega) (by omega) (fun h=>by rw [Nat.zero_add];exact h)
 ·cases h
def CLn (S:Sg):FuncId→List AV→Option (Bool×AV):=addC 150 (tLen32 S) noC
theorem size_call (S:Sg) (xs:List Int):callA Tryz.prog ⟨CLn S,Kall,noL⟩ 10 10 157 [.lst false 129 xs.length (lim xs)]=
  (bif decide ((↑xs.length:Int)=(0:Int)) then some (.val (.int .i64 0)) else (bif inR IntKind.i64 ((↑xs.length:Int) - (1:Int)) then (bif inR IntKind.i64 ((32:Int)*((↑xs.length:Int) - (1:Int))) then (bif inR IntKind.i64 ((↑xs.length:Int) - (1:Int)) then (bif decide ((0:Int)≤(↑xs.length:Int) - (1:Int))&&decide ((↑xs.length:Int) - (1:Int) < (↑xs.length:Int)) then (bif inU (xs.getD ((↑xs.length:Int) - (1:Int)).toNat (0:Int)) then (bif inR IntKind.i64 ((32:Int)*((↑xs.length:Int) - (1:Int))+(↑(S.bl (xs.getD ((↑xs.length:Int) - (1:Int)).toNat (0:Int)).toNat):Int)) then some (.val (.int .i64 ((32:Int)*((↑xs.length:Int) - (1:Int))+(↑(S.bl (xs.getD ((↑xs.length:Int) - (1:Int)).toNat (0:Int)).toNat):Int)))) else none) else none) else none) else none) else none) else none)):=by kernel_rfl
def tSize (S:Sg) (args:List AV):Option (Bool×AV):=match args with | [.lst _ 129 m f]=>some (S.can m f, .val (.int .i64 (S.bl (S.num m f)))) | _=>none
theorem CLn_ok:Meets Tryz.prog (CLn sg0):=(meets_none _).add eLen32
theorem bl_le (n m:Nat) (h:n < 2 ^ m):sg0.bl n≤m:=blen_le h
theorem eSize:Entry Tryz.prog 157 (tSize sg0):=by
 refine entry_to (E:= ⟨CLn sg0,Kall,noL⟩) (u:=10) (d:=10) CLn_ok loops_none (by kernel_rfl) (fun args r h=> ?_)
 unfold tSize at h
 split at h
 ·rename_i fl m f
  simp only [Option.some.injEq,Prod.mk.injEq] at h
  obtain ⟨h1,rfl⟩:=h
  obtain ⟨a1,a2,a3,a4,a5⟩:=can_out h1
  have key:callA Tryz.prog ⟨CLn sg0,Kall,noL⟩ 10 10 157 [.lst false 129 (rowOf m f).length (lim (rowOf m f))]=some (.val (.int .i64 (sg0.bl (sg0.num m f)))):=by
   rw [size_call]
   rw [a5]
   generalize hN:sg0.num m f=N at*
   have hb:(toL N).length≤17592186044416:=by rw [← a5];exact a3
   by_cases h0:N=0
   ·subst h0
    rw [toL_zero]
    rfl
   ·have hne:toL N≠ []:=fun e=>h0 ((toL_nil_iff N).1 e)
    have hpos:0 < (toL N).length:=List.length_pos_iff.2 hne
    have e1:((toL N).length:Int) - 1=(((toL N).length - 1:Nat):Int):=by omega
    have hlast:(toL N).length - 1 < (toL N).length:=by omega
    obtain ⟨t,ht,het,hrt⟩:=getD_limb (okL_toL N) _ hlast
    have ht0:0 < t:=by
     have:=trim_toL N hne
     rw [List.getLast_eq_getElem,het] at this
     omega
    have hval:=vL_take_add (toL N) ((toL N).length - 1) (by omega)
    rw [List.drop_eq_getElem_cons hlast,het,List.drop_of_length_le (by omega),vL_cons,vL_nil,vL_toL,Int.toNat_natCast,Nat.mul_zero,Nat.add_zero] at hval
    have hlow:=vL_lt (okL_take (okL_toL N) ((toL N).length - 1))
    rw [List.length_take,Nat.min_eq_left (by omega)] at hlow
    have hcat:=blen_cat ht0 hlow
    rw [← hval] at hcat
    have hbt:=bl_le t 32 ht
    have hbt:blen t≤32:=hbt
    rw [e1,Int.toNat_natCast,hrt,dF (show ¬ ((toL N).length:Int)=0 by omega),i64L _ (by omega),i64T (show -9223372036854775808≤(32:Int)*(((toL N).length - 1:Nat):Int)∧(32:Int)*(((toL N).length - 1:Nat):Int)≤9223372036854775807 by omega),dT (show (0:Int)≤(((toL N).length - 1:Nat):Int) by omega),dT (show (((toL N).length - 1:Nat):Int) < ((toL N).length:Int) by omega),inU_in ht,Int.toNat_natCast]
    show (bif inR .i64 ((32:Int)*(((toL N).length - 1:Nat):Int)+(blen t:Int)) then some (AV.val (.int .i64 ((32:Int)*(((toL N).length - 1:Nat):Int)+(blen t:Int)))) else none)=some (AV.val (.int .i64 (blen N:Int)))
    rw [i64T (show -9223372036854775808≤(32:Int)*(((toL N).length - 1:Nat):Int)+(blen t:Int)∧(32:Int)*(((toL N).length - 1:Nat):Int)+(blen t:Int)≤9223372036854775807 by omega),hcat]
    simp
  refine ⟨_,_,key,fun B w ys hr=> ?_,fun B w y hr=>hr⟩
  obtain ⟨y,zs,rfl,q1,q2⟩:=hr
  exact ⟨y,_,rfl,norm_row a1 q1,q2⟩
 ·cases h
theorem lead_call (S:Sg) (x:Int):callA Tryz.prog ⟨CLn S,Kall,noL⟩ 10 10 170 [.val (.int .u32 x)]=
  (bif inU x then (bif inR IntKind.i64 ((32:Int) - (↑(S.bl x.toNat):Int)) then some (.val (.int .i64 ((32:Int) - (↑(S.bl x.toNat):Int)))) else none) else none):=by kernel_rfl
theorem div32_call (x y z:Int):callA Tryz.prog E000 10 10 174 [.val (.int .u32 x), .val (.int .u32 y), .val (.int .u32 z)]=
  (bif !decide (z=(0:Int)) then (bif decide (z≤x) then none else (bif inR IntKind.u64 x then (bif inR IntKind.u64 y then (bif inR IntKind.u64 z then (bif decide (z=(0:Int)) then none else (bif inR IntKind.u64 z then (bif decide (z=(0:Int)) then none else some (.tup [(.val (.int .u32 (IntKind.u32.wrap (IntKind.u64.wrap ((bitI BinOp.or IntKind.u64 (IntKind.u64.wrap (x*(4294967296:Int))) y).tdiv z))))),(.val (.int .u32 (IntKind.u32.wrap ((bitI BinOp.or IntKind.u64 (IntKind.u64.wrap (x*(4294967296:Int))) y).tmod z))))])) else none)) else none) else none) else none)) else (bif inR IntKind.u64 x then (bif inR IntKind.u64 y then (bif inR IntKind.u64 z then (bif decide (z=(0:Int)) then none else (bif inR IntKind.u64 z then (bif decide (z=(0:Int)) then none else some (.tup [(.val (.int .u32 (IntKind.u32.wrap (IntKind.u64.wrap ((bitI BinOp.or IntKind.u64 (IntKind.u64.wrap (x*(4294967296:Int))) y).tdiv z))))),(.val (.int .u32 (IntKind.u32.wrap ((bitI BinOp.or IntKind.u64 (IntKind.u64.wrap (x*(4294967296:Int))) y).tmod z))))])) else none)) else none) else none) else none)):=by kernel_rfl
theorem add32_call (x y z:Int):callA Tryz.prog E000 10 10 175 [.val (.int .u32 x), .val (.int .u32 y), .val (.int .u32 z)]=
  (bif inR IntKind.u64 x then (bif inR IntKind.u64 y then (bif inR IntKind.u64 z then some (.tup [(.val (.int .u32 (IntKind.u32.wrap (IntKind.u64.wrap (IntKind.u64.wrap (x+y)+z))))),(.val (.int .u32 (IntKind.u32.wrap ((IntKind.u64.wrap (IntKind.u64.wrap (x+y)+z)).fdiv (4294967296:Int)))))]) else none) else none) else none):=by kernel_rfl
end
end Go.Proofs.YtamcpiicmfielaaGreat.L
