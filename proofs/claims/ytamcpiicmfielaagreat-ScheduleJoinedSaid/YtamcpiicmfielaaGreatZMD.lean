import Derived.Test.YtamcpiicmfielaaGreatZL
import Derived.Test.YtamcpiicmfielaaGreatZMA
set_option linter.unusedVariables false
set_option linter.unusedSimpArgs false
namespace Go.Proofs.YtamcpiicmfielaaGreat.L
open Go Go.V Go.RowKit Go.Proofs.YtamcpiicmfielaaGreat.Sp
open Go.Proofs (Tryz.prog)
noncomputable section
structure Xg where
 sv:Int→Int
 sb:Int→Bool
 dq:Int→Int→Int
 dr:Int→Int→Int
 de:Int→Int
 gcd:Int→Int→Int
 rt:Int→Int
 rx:Int→Bool
 re:Int→Int
 pr:Int→ByteArray
 pv:ByteArray→Int
 pe:ByteArray→Int
 ok2:ByteArray→Bool
 okp:ByteArray→Bool
def tDiv (S:Sg) (X:Xg) (args:List AV):Option (Bool×AV):=match args with | [.agg [.val (.bool b), .val (.string s)], .agg [.val (.bool c), .val (.string t)]]=>some (S.ok s&&S.ok t, .tup [S.int (X.dq (S.val b s) (S.val c t)),S.int (X.dr (S.val b s) (S.val c t)), .val (.int .i64 (X.de (S.val c t)))]) | _=>none
def tGcd (S:Sg) (X:Xg) (args:List AV):Option (Bool×AV):=match args with | [.agg [.val (.bool b), .val (.string s)], .agg [.val (.bool c), .val (.string t)]]=>some (S.ok s&&S.ok t,S.int (X.gcd (S.val b s) (S.val c t))) | _=>none
def tRoot (S:Sg) (X:Xg) (args:List AV):Option (Bool×AV):=match args with | [.agg [.val (.bool b), .val (.string s)]]=>some (X.ok2 s, .tup [S.int (X.rt (S.val b s)), .val (.bool (X.rx (S.val b s))), .val (.int .i64 (X.re (S.val b s)))]) | _=>none
end
end Go.Proofs.YtamcpiicmfielaaGreat.L
namespace Go.Proofs.YtamcpiicmfielaaGreat.L
open Go Go.V Go.RowKit Go.Proofs.YtamcpiicmfielaaGreat.Sp
open Go.Proofs (Tryz.prog)
noncomputable section
theorem strEq_self (s:ByteArray):strEq s s=true:=by unfold strEq;exact beq_self_eq_true _
theorem ms_zero:sg0.ms 0=ByteArray.mk #[]:=by
 show magOf 0=_
 unfold magOf
 rw [toB_zero]
theorem ok_nil:sg0.ok (ByteArray.mk #[])=true:=by
 exact decide_eq_true (show (ByteArray.mk #[]).size≤8796093022208 by decide)
theorem law_walk {E:Env} {g:FuncId} {args:List AV} {xs:Array Value} (hC:Meets Tryz.prog E.C) (hL:LoopsOk Tryz.prog E) (hok:okFn Tryz.prog g=true) {u d:Nat} (h:callA Tryz.prog E u d g args=some (.val (.bool true))) (W:World) (ha:RelL Tryz.prog NoA (fun _=>False) W args NoD xs.toList):
  Calls Tryz.prog g xs W fun e w'=>e= .returned (.bool true)∧Below W.heap.size W w':=by
 refine (callA_sound hC hL mixed hok h (fun _=>False) W xs (fun _ h=>h.elim) ha).mono ?_
 rintro e w' ⟨y,rfl,h2,h3⟩
 have h3:y= .bool true:=h3
 exact ⟨by rw [h3],h2⟩
end
end Go.Proofs.YtamcpiicmfielaaGreat.L
namespace Go.Proofs.YtamcpiicmfielaaGreat.L
open Go Go.V Go.RowKit Go.Proofs.YtamcpiicmfielaaGreat.Sp Go.Proofs.YtamcpiicmfielaaGreat.F Go.Proofs.YtamcpiicmfielaaGreatW.PrintWords
open Go.Proofs (Tryz.prog)
noncomputable section
abbrev p_rtrim:List Bool:= [false,false,true]
def sh_rtrim (s:ByteArray):List AV:=slots 14 [(0, .val (.string s))]
def hp_rtrim (s:ByteArray):Hp:= []
theorem body_rtrim:subC Tryz.prog 160 p_rtrim=some (.loop (lb 160 p_rtrim)):=by kernel_rfl
theorem code_rtrim:subC Tryz.prog 160 (false :: p_rtrim)=some (lb 160 p_rtrim):=by kernel_rfl
theorem round_rtrim (s:ByteArray):roundA Tryz.prog EL0 160 [0] (lb 160 p_rtrim) (false :: p_rtrim) (sh_rtrim s) (hp_rtrim s)=
  (bif decide ((0:Int) < (↑s.size:Int)) then (bif decide ((0:Int) < (↑s.size:Int)) then (bif decide (byteAt s (0:Nat)=(0:Int)) then (bif decide ((1:Int)≤(↑s.size:Int)) then some (.normal,slots 14 [(0,(.val (.string (strSub s (1:Nat) s.size))))], []) else none) else some ((.exit 0),slots 14 [(0,(.val (.string s)))], [])) else none) else some ((.exit 0),slots 14 [(0,(.val (.string s)))], [])):=by kernel_rfl
theorem step_rtrim {s:ByteArray} {e:Ex} {T:List AV} {H:Hp} (h:roundA Tryz.prog EL0 160 [0] (lb 160 p_rtrim) (false :: p_rtrim) (sh_rtrim s) (hp_rtrim s)=some (e,T,H)):V.Ends Tryz.prog false 0 0 (lb 160 p_rtrim) (sh_rtrim s) (hp_rtrim s) e T H:=
 round_ends (meets_none _) loops_none mixed code_rtrim h
def pre_rtrim (s:ByteArray):Prop:=True
def post_rtrim (s:ByteArray) (r:ByteArray):Prop:=r=magOf (vS s)
theorem byteAt_cons {s:ByteArray} {c:UInt8} {l:List UInt8} (h:s.data.toList=c :: l):byteAt s 0=(c.toNat:Int):=by unfold byteAt;rw [h];rfl
theorem strSub_cons {s:ByteArray} {c:UInt8} {l:List UInt8} (h:s.data.toList=c :: l):(strSub s 1 s.size).data.toList=l:=by
 have hs:s.size=l.length+1:=by
  have:s.size=s.data.toList.length:=by rw [Array.length_toList];rfl
  rw [this,h];rfl
 show ((s.data.toList.drop 1).take (s.size - 1))=l
 rw [h,hs]
 simp
theorem size_list (s:ByteArray):s.size=s.data.toList.length:=by rw [Array.length_toList];rfl
theorem rtrim_go:∀ (n:Nat) (s:ByteArray),s.size=n→LoopTo Tryz.prog (lb 160 p_rtrim) (sh_rtrim s) (hp_rtrim s) (.exit 0) (sh_rtrim (magOf (vS s))) (hp_rtrim (magOf (vS s)))
 | 0,s,hn=>by
  have hd:s.data.toList= []:=List.length_eq_zero_iff.1 (by rw [← size_list];exact hn)
  have e:magOf (vS s)=s:=magOf_of_lead s (by rw [hd];exact True.intro)
  rw [e]
  refine .last (step_rtrim ?_) (by intro h;cases h)
  rw [round_rtrim,dF (show ¬ (0:Int) < s.size by omega)]
  rfl
 | n+1,s,hn=>by
  obtain ⟨c,l,hd⟩:∃ c l,s.data.toList=c :: l:=by
   cases h:s.data.toList with
   | nil=>rw [size_list,h] at hn;simp at hn
   | cons c l=>exact ⟨c,l,rfl⟩
  have hr:=round_rtrim s
  have hb:=byteAt_cons hd
  rw [dT (show (0:Int) < s.size by omega),hb] at hr
  by_cases hc:c=0
  ·have hv:vS s=vS (strSub s 1 s.size):=by
    unfold vS
    rw [strSub_cons hd,hd,vB_cons,hc]
    simp
   rw [hv]
   have hlen:(strSub s 1 s.size).size=n:=by
    rw [size_list,strSub_cons hd]
    rw [size_list,hd] at hn
    simpa using hn
   refine .more (step_rtrim ?_) (rtrim_go n _ hlen)
   rw [hr,hc,dT (show (((0:UInt8).toNat:Nat):Int)=0 from rfl),dT (show (1:Int)≤s.size by omega)]
   rfl
  ·have e:magOf (vS s)=s:=magOf_of_lead s (by rw [hd];exact hc)
   rw [e]
   refine .last (step_rtrim ?_) (by intro h;cases h)
   have hc2:¬ ((c.toNat:Nat):Int)=0:=fun h=>hc (UInt8.toNat_inj.1 (by simpa using h))
   rw [hr,dF hc2]
   rfl
theorem loop_rtrim (s:ByteArray) (h:pre_rtrim s):∃ r:ByteArray,LoopTo Tryz.prog (lb 160 p_rtrim) (sh_rtrim s) (hp_rtrim s) (.exit 0) (sh_rtrim r) (hp_rtrim r)∧post_rtrim s r:= ⟨_,rtrim_go s.size s rfl,rfl⟩
def told_rtrim (κ:ByteArray→Bool) (φ:ByteArray→ByteArray) (T:List AV) (H:Hp):Option (Bool×Ex×List AV×Hp):=
 match lget T 0,H with
 | .val (.string s), []=>bif T.length==14 then some (κ s, .exit 0,sh_rtrim ((φ s)),hp_rtrim ((φ s))) else none
 | _,_=>none
abbrev KT_rtrim:Type:=ByteArray→Bool
abbrev FT_rtrim:Type:=ByteArray→ByteArray
def LL_rtrim (κ:KT_rtrim) (φ:FT_rtrim) (L:LTab):LTab:=addLn 0 160 p_rtrim [0] (told_rtrim κ φ) L
def phi_rtrim (s:ByteArray):ByteArray:=Classical.epsilon fun ρ=>LoopTo Tryz.prog (lb 160 p_rtrim) (sh_rtrim s) (hp_rtrim s) (.exit 0) (sh_rtrim (ρ)) (hp_rtrim (ρ))∧post_rtrim s ρ
theorem phi_rtrim_spec (s:ByteArray) (h:pre_rtrim s):LoopTo Tryz.prog (lb 160 p_rtrim) (sh_rtrim s) (hp_rtrim s) (.exit 0) (sh_rtrim ((phi_rtrim s))) (hp_rtrim ((phi_rtrim s)))∧post_rtrim s (phi_rtrim s):=Classical.epsilon_spec (loop_rtrim s h)
def cond_rtrim (s:ByteArray):Bool:= @decide (pre_rtrim s) (Classical.propDecidable _)
theorem cond_rtrim_eq (s:ByteArray) (h:pre_rtrim s):cond_rtrim s=true:= @decide_eq_true _ (Classical.propDecidable _) h
theorem told_rtrim_ok (T:List AV) (H:Hp) (e:Ex) (T1:List AV) (H1:Hp) (h:told_rtrim cond_rtrim phi_rtrim T H=some (true,e,T1,H1)):V.Ends Tryz.prog false 0 0 (.loop (lb 160 p_rtrim)) T H e T1 H1:=by
 unfold told_rtrim at h
 split at h
 ·rename_i s h0
  rw [Bool.cond_eq_ite] at h
  split at h
  ·rename_i hlen
   rw [beq_iff_eq] at hlen
   simp only [Option.some.injEq,Prod.mk.injEq,Bool.and_eq_true,decide_eq_true_eq] at h
   obtain ⟨k1,rfl,rfl,rfl⟩:=h
   have kc:= @of_decide_eq_true _ (Classical.propDecidable _) k1
   refine Ends.pre (phi_rtrim_spec s kc).1.ends (fun α B w D ys hr=>slots_rel hlen (fun p hp y hy=> ?_) hr)
   simp only [List.mem_cons,List.not_mem_nil,or_false] at hp
   subst hp
   ·rw [h0] at hy;exact hy
  ·cases h
 ·cases h
theorem LL_rtrim_ok {L:LTab} (h:LOk Tryz.prog L):LOk Tryz.prog (LL_rtrim cond_rtrim phi_rtrim L):=h.add2n body_rtrim told_rtrim_ok
def ERt (κ:KT_rtrim) (φ:FT_rtrim):Env:= ⟨noC,Kall,LL_rtrim κ φ noL⟩
theorem rtrim_call (κ:KT_rtrim) (φ:FT_rtrim) (s:ByteArray):callA Tryz.prog (ERt κ φ) 10 10 160 [.val (.string s)]=
  (bif κ s then some (.val (.string (φ s))) else none):=by kernel_rfl
theorem eRTrim:Entry Tryz.prog 160 (tStrip sg0):=by
 refine entry_of (E:=ERt cond_rtrim phi_rtrim) (u:=10) (d:=10) (meets_none _) (LL_rtrim_ok LOk.none).ok mixed (by kernel_rfl) (fun args r h=> ?_)
 unfold tStrip at h
 split at h
 ·rename_i s
  cases h
  obtain ⟨_,h2⟩:=phi_rtrim_spec s True.intro
  have h2:phi_rtrim s=magOf (vS s):=h2
  rw [rtrim_call,cond_rtrim_eq _ True.intro,h2]
  rfl
 ·cases h
def ECa (S:Sg):Env:= ⟨addC 160 (tStrip S) noC,Kall,noL⟩
theorem canon_call (S:Sg) (b:Bool) (s:ByteArray):callA Tryz.prog (ECa S) 10 10 130 [.agg [.val (.bool b), .val (.string s)]]=
  (bif decide ((0:Int) < (↑s.size:Int)) then (bif decide ((0:Int) < (↑s.size:Int)) then (bif !decide (byteAt s (0:Nat)=(0:Int)) then some (.agg [(.val (.bool b)),(.val (.string s))]) else (bif b then some (.agg [(.val (.bool (!strEq (S.mg (S.vs s)) (ByteArray.mk #[])))),(.val (.string (S.mg (S.vs s))))]) else some (.agg [(.val (.bool false)),(.val (.string (S.mg (S.vs s))))]))) else none) else (bif b then some (.agg [(.val (.bool (!strEq (S.mg (S.vs s)) (ByteArray.mk #[])))),(.val (.string (S.mg (S.vs s))))]) else some (.agg [(.val (.bool false)),(.val (.string (S.mg (S.vs s))))]))):=by kernel_rfl
def tCanon (S:Sg) (args:List AV):Option (Bool×AV):=match args with | [.agg [.val (.bool b), .val (.string s)]]=>some (true,S.int (S.val b s)) | _=>none
theorem ng_eq (z:Int):sg0.ng z=decide (z < 0):=by
 rw [Bool.eq_iff_iff]
 show (enc z).1=true↔_
 unfold enc
 simp only [decide_eq_true_eq]
theorem agg_val (b:Bool) (s:ByteArray) (hl:Lead s.data.toList) (hb:b=true→s.data.toList≠ []):AV.agg [.val (.bool b), .val (.string s)]=sg0.int (sg0.val b s):=by
 have e1:sg0.ms (sg0.val b s)=s:=by
  show magOf (sg0.val b s).natAbs=s
  rw [← vs_val]
  exact magOf_of_lead s hl
 have e2:sg0.ng (sg0.val b s)=b:=by
  rw [ng_eq]
  have hv:sg0.val b s=if b=true then -(vS s:Int) else (vS s:Int):=rfl
  cases b with
  | true=>
   have hp:0 < vS s:=vB_pos_of_lead hl (hb rfl)
   rw [hv,if_pos rfl,decide_eq_true_eq]
   omega
  | false=>
   rw [hv,if_neg (by decide),decide_eq_false_iff_not]
   omega
 unfold Sg.int
 rw [e1,e2]
theorem eCanon:Entry Tryz.prog 130 (tCanon sg0):=by
 refine entry_of (E:=ECa sg0) (u:=10) (d:=10) ((meets_none _).add eRTrim) loops_none mixed (by kernel_rfl) (fun args r h=> ?_)
 unfold tCanon at h
 split at h
 ·rename_i b s
  cases h
  rw [canon_call]
  have hm:strEq (sg0.mg (sg0.vs s)) (ByteArray.mk #[])=decide (sg0.vs s=0):=magOf_nil (vS s)
  have hend:∀ b:Bool,AV.agg [.val (.bool (bif b then !decide (sg0.vs s=0) else false)), .val (.string (sg0.mg (sg0.vs s)))]=sg0.int (sg0.val b s):=by
   intro b
   have h1:AV.agg [.val (.bool (sg0.ng (sg0.val b s))), .val (.string (sg0.ms (sg0.val b s)))]=sg0.int (sg0.val b s):=rfl
   rw [← h1]
   have e1:sg0.ms (sg0.val b s)=sg0.mg (sg0.vs s):=by show magOf (sg0.val b s).natAbs=_;rw [← vs_val];rfl
   have e2:sg0.ng (sg0.val b s)=(bif b then !decide (sg0.vs s=0) else false):=by
    have hv:sg0.val b s=if b=true then -(sg0.vs s:Int) else (sg0.vs s:Int):=rfl
    rw [ng_eq,hv]
    cases b
    ·rw [if_neg (by decide)]
     exact decide_eq_false (by omega)
    ·rw [if_pos rfl]
     by_cases h:sg0.vs s=0
     ·rw [decide_eq_true h];exact decide_eq_false (by omega)
     ·rw [decide_eq_false h];exact decide_eq_true (by omega)
   rw [e1,e2]
  by_cases h0:(0:Int) < s.size
  ·obtain ⟨c,l,hd⟩:∃ c l,s.data.toList=c :: l:=by
    cases h:s.data.toList with
    | nil=>rw [size_list,h] at h0;simp at h0
    | cons c l=>exact ⟨c,l,rfl⟩
   have hb:=byteAt_cons hd
   rw [dT h0]
   by_cases hc:c=0
   ·rw [hb,hc,dT (show (((0:UInt8).toNat:Nat):Int)=0 from rfl)]
    cases b
    ·exact congrArg some (hend false)
    ·have:=hend true
     rw [← hm] at this
     exact congrArg some this
   ·have hc2:¬ ((c.toNat:Nat):Int)=0:=fun h=>hc (UInt8.toNat_inj.1 (by simpa using h))
    rw [hb,dF hc2]
    exact congrArg some (agg_val b s (by rw [hd];exact hc) (fun _=>by rw [hd];simp))
  ·rw [dF h0]
   cases b
   ·exact congrArg some (hend false)
   ·have:=hend true
    rw [← hm] at this
    exact congrArg some this
 ·cases h
end
end Go.Proofs.YtamcpiicmfielaaGreat.L
namespace Go.Proofs.YtamcpiicmfielaaGreat.L
open Go Go.V Go.RowKit Go.Proofs.YtamcpiicmfielaaGreat.Sp Go.Proofs.YtamcpiicmfielaaGreat.F Go.Proofs.YtamcpiicmfielaaGreatW.PrintWords
open Go.Proofs (Tryz.prog)
noncomputable section
def zq (x y:Int):Int:=if y=0 then 0 else x.fdiv y
def zr (x y:Int):Int:=if y=0 then 0 else x.fmod y
def ze (y:Int):Int:=if y=0 then 10 else 0
def CDi (S:Sg):FuncId→List AV→Option (Bool×AV):=addC 106 (tLoad S) (addC 152 (tDivide S) (addC 108 (tPack S) (addC 69 (tOf S) (addC 153 (tSub S) (addC 75 (tAdd S) noC)))))
theorem CDi_ok:Meets Tryz.prog (CDi sg0):=((((((meets_none _).add eAdd).add eSub).add eOf).add ePack).add eDivide).add eLoad
theorem div_call (S:Sg) (b c:Bool) (s t:ByteArray):letI q_3:=(S.num (S.len (S.vs s)) (S.row (S.vs s)) / S.num (S.len (S.vs t)) (S.row (S.vs t)));letI q_1:=(S.sg (bif true then !b==c else b==c) (S.num (S.len q_3) (S.row q_3)));letI q_4:=(S.num (S.len (S.vs s)) (S.row (S.vs s)) % S.num (S.len (S.vs t)) (S.row (S.vs t)));letI q_2:=(S.sg b (S.num (S.len q_4) (S.row q_4)));
  (callA Tryz.prog ⟨CDi S,Kall,noL⟩ 10 10 115 [.agg [.val (.bool b), .val (.string s)], .agg [.val (.bool c), .val (.string t)]]=(bif S.ok t then (bif decide ((↑(S.len (S.vs t)):Int)=(0:Int)) then some (.tup [(.agg [(.val (.bool false)),(.val (.string (ByteArray.mk #[])))]),(.agg [(.val (.bool false)),(.val (.string (ByteArray.mk #[])))]),(.val (.int .i64 10))]) else (bif S.ok s then (bif S.can (S.len (S.vs s)) (S.row (S.vs s))&&S.can (S.len (S.vs t)) (S.row (S.vs t))&&S.oks (S.len (S.vs s)) (S.row (S.vs s))&&S.oks (S.len (S.vs t)) (S.row (S.vs t))&&decide ((0:Nat) < S.num (S.len (S.vs t)) (S.row (S.vs t))) then (bif S.okr (S.len q_3) (S.row q_3) then (bif S.okr (S.len q_4) (S.row q_4) then (bif !strEq (S.ms q_2) (ByteArray.mk #[]) then (bif bif true then !b==c else b==c then (bif S.ok (S.ms q_1)&&S.ok (S.ms (1:Int)) then (bif S.ok (S.ms q_2)&&S.ok t then some (.tup [(.agg [(.val (.bool (S.ng (S.val (S.ng q_1) (S.ms q_1) - S.val (S.ng (1:Int)) (S.ms (1:Int)))))),(.val (.string (S.ms (S.val (S.ng q_1) (S.ms q_1) - S.val (S.ng (1:Int)) (S.ms (1:Int))))))]),(.agg [(.val (.bool (S.ng (S.val (S.ng q_2) (S.ms q_2)+S.val c t)))),(.val (.string (S.ms (S.val (S.ng q_2) (S.ms q_2)+S.val c t))))]),(.val (.int .i64 0))]) else none) else none) else some (.tup [(.agg [(.val (.bool (S.ng q_1))),(.val (.string (S.ms q_1)))]),(.agg [(.val (.bool (S.ng q_2))),(.val (.string (S.ms q_2)))]),(.val (.int .i64 0))])) else some (.tup [(.agg [(.val (.bool (S.ng q_1))),(.val (.string (S.ms q_1)))]),(.agg [(.val (.bool (S.ng q_2))),(.val (.string (S.ms q_2)))]),(.val (.int .i64 0))])) else none) else none) else none) else none)) else none)):=by kernel_rfl
abbrev p_gc:List Bool:= [false,false,true,true]
def sh_gc (xs:List Int) (ys:List Int) (rb:Bool) (rs:ByteArray):List AV:=slots 28 [(4, .ptr 0 0),(5, .lst false 129 xs.length (lim xs)),(6, .lst false 129 ys.length (lim ys))]
def hp_gc (xs:List Int) (ys:List Int) (rb:Bool) (rs:ByteArray):Hp:= [.row (.cells [.val (.bool rb), .val (.string rs)]) 81 .live]
theorem body_gc:subC Tryz.prog 114 p_gc=some (.loop (lb 114 p_gc)):=by kernel_rfl
theorem code_gc:subC Tryz.prog 114 (false :: p_gc)=some (lb 114 p_gc):=by kernel_rfl
theorem round_gc (S:Sg) (xs:List Int) (ys:List Int) (rb:Bool) (rs:ByteArray):roundA Tryz.prog ⟨CDi S,Kall,noL⟩ 114 [4,5,6] (lb 114 p_gc) (false :: p_gc) (sh_gc xs ys rb rs) (hp_gc xs ys rb rs)=
  (bif decide ((0:Int) < (↑ys.length:Int)) then (bif S.can xs.length (lim xs)&&S.can ys.length (lim ys)&&S.oks xs.length (lim xs)&&S.oks ys.length (lim ys)&&decide ((0:Nat) < S.num ys.length (lim ys)) then some (.normal,slots 28 [(4,(.ptr 0 0)),(5,(.lst false 129 ys.length (lim ys))),(6,(.lst false 129 (S.len (S.num xs.length (lim xs) % S.num ys.length (lim ys))) (S.row (S.num xs.length (lim xs) % S.num ys.length (lim ys)))))], [(.row (.cells [(.val (.bool rb)),(.val (.string rs))]) 81 .live)]) else none) else some ((.exit 0),slots 28 [(4,(.ptr 0 0)),(5,(.lst false 129 xs.length (lim xs))),(6,(.lst false 129 ys.length (lim ys)))], [(.row (.cells [(.val (.bool rb)),(.val (.string rs))]) 81 .live)])):=by kernel_rfl
theorem step_gc {xs:List Int} {ys:List Int} {rb:Bool} {rs:ByteArray} {e:Ex} {T:List AV} {H:Hp} (h:roundA Tryz.prog ⟨CDi sg0,Kall,noL⟩ 114 [4,5,6] (lb 114 p_gc) (false :: p_gc) (sh_gc xs ys rb rs) (hp_gc xs ys rb rs)=some (e,T,H)):V.Ends Tryz.prog false 0 0 (lb 114 p_gc) (sh_gc xs ys rb rs) (hp_gc xs ys rb rs) e T H:=
 round_ends CDi_ok loops_none mixed code_gc h
def pre_gc (xs ys:List Int) (rb:Bool) (rs:ByteArray):Prop:=∃ a b:Nat,xs=toL a∧ys=toL b∧(toL a).length≤8796093022208∧(toL b).length≤8796093022208
def post_gc (xs ys:List Int) (rb:Bool) (rs:ByteArray) (r:List Int×List Int):Prop:=r.1=toL (Nat.gcd (vL xs) (vL ys))
theorem oks_len {n:Nat} (h:(toL n).length≤8796093022208):sg0.oks (toL n).length (lim (toL n))=true:=by
 show (okB (toL n).length (lim (toL n))&&decide ((toL n).length≤8796093022208))=true
 rw [okB_enc,decide_eq_true h];rfl
theorem len_mono {a b:Nat} (h:a≤b):(toL a).length≤(toL b).length:=len_toL_le (Nat.lt_of_le_of_lt h (lt_of_len_toL (Nat.le_refl _)))
theorem len0 (n:Nat):((toL n).length:Int)=0↔n=0:=by
 constructor
 ·intro h
  exact (toL_nil_iff n).1 (List.length_eq_zero_iff.1 (by omega))
 ·intro h;subst h;rw [toL_zero];rfl
theorem gc_go (rb:Bool) (rs:ByteArray) (n:Nat):∀ a b:Nat,b=n→(toL a).length≤8796093022208→(toL b).length≤8796093022208→∃ r:List Int×List Int,LoopTo Tryz.prog (lb 114 p_gc) (sh_gc (toL a) (toL b) rb rs) (hp_gc (toL a) (toL b) rb rs) (.exit 0) (sh_gc r.1 r.2 rb rs) (hp_gc r.1 r.2 rb rs)∧r.1=toL (Nat.gcd a b):=by
 induction n using Nat.strongRecOn with
 | _ n ih=>
  intro a b hb ha1 hb1
  have hr:=round_gc sg0 (toL a) (toL b) rb rs
  simp only [num_len] at hr
  by_cases h0:b=0
  ·subst h0
   refine ⟨(toL a,toL 0), .last (step_gc ?_) (by intro h;cases h),by rw [Nat.gcd_zero_right]⟩
   rw [hr,dF (show ¬ (0:Int) < ((toL 0).length:Int) by rw [toL_zero];decide)]
   rfl
  ·have hm:a % b < b:=Nat.mod_lt _ (by omega)
   have hl:=len_mono (Nat.le_of_lt hm)
   obtain ⟨r,h1,h2⟩:=ih (a % b) (by omega) b (a % b) rfl hb1 (by omega)
   refine ⟨r, .more (step_gc ?_) h1,by rw [h2,Nat.gcd_comm b,← Nat.gcd_rec,Nat.gcd_comm]⟩
   have hz:=len0 b
   rw [hr,dT (show (0:Int) < ((toL b).length:Int) by omega),can_len (by omega),can_len (by omega),oks_len ha1,oks_len hb1,dT (show 0 < b by omega)]
   rfl
theorem loop_gc (xs ys:List Int) (rb:Bool) (rs:ByteArray) (h:pre_gc xs ys rb rs):∃ r:List Int×List Int,LoopTo Tryz.prog (lb 114 p_gc) (sh_gc xs ys rb rs) (hp_gc xs ys rb rs) (.exit 0) (sh_gc r.1 r.2 rb rs) (hp_gc r.1 r.2 rb rs)∧post_gc xs ys rb rs r:=by
 obtain ⟨a,b,rfl,rfl,h1,h2⟩:=h
 unfold post_gc
 rw [vL_toL,vL_toL]
 exact gc_go rb rs b a b rfl h1 h2
def told_gc (κ:List Int→List Int→Bool→ByteArray→Bool) (φ:List Int→List Int→Bool→ByteArray→List Int×List Int) (T:List AV) (H:Hp):Option (Bool×Ex×List AV×Hp):=
 match lget T 4,lget T 5,lget T 6,H with
 | .ptr 0 0, .lst false 129 m_xs f_xs, .lst false 129 m_ys f_ys, [.row (.cells [.val (.bool rb), .val (.string rs)]) 81 .live]=>bif T.length==28 then some (okB m_xs f_xs&&okB m_ys f_ys&&κ (rowOf m_xs f_xs) (rowOf m_ys f_ys) rb rs, .exit 0,sh_gc ((φ (rowOf m_xs f_xs) (rowOf m_ys f_ys) rb rs).1) ((φ (rowOf m_xs f_xs) (rowOf m_ys f_ys) rb rs).2) rb rs,hp_gc ((φ (rowOf m_xs f_xs) (rowOf m_ys f_ys) rb rs).1) ((φ (rowOf m_xs f_xs) (rowOf m_ys f_ys) rb rs).2) rb rs) else none
 | _,_,_,_=>none
abbrev KT_gc:Type:=List Int→List Int→Bool→ByteArray→Bool
abbrev FT_gc:Type:=List Int→List Int→Bool→ByteArray→List Int×List Int
def LL_gc (κ:KT_gc) (φ:FT_gc) (L:LTab):LTab:=addLn 0 114 p_gc [4,5,6] (told_gc κ φ) L
def phi_gc (xs:List Int) (ys:List Int) (rb:Bool) (rs:ByteArray):List Int×List Int:=Classical.epsilon fun ρ=>LoopTo Tryz.prog (lb 114 p_gc) (sh_gc xs ys rb rs) (hp_gc xs ys rb rs) (.exit 0) (sh_gc (ρ.1) (ρ.2) rb rs) (hp_gc (ρ.1) (ρ.2) rb rs)∧post_gc xs ys rb rs ρ
theorem phi_gc_spec (xs:List Int) (ys:List Int) (rb:Bool) (rs:ByteArray) (h:pre_gc xs ys rb rs):LoopTo Tryz.prog (lb 114 p_gc) (sh_gc xs ys rb rs) (hp_gc xs ys rb rs) (.exit 0) (sh_gc ((phi_gc xs ys rb rs).1) ((phi_gc xs ys rb rs).2) rb rs) (hp_gc ((phi_gc xs ys rb rs).1) ((phi_gc xs ys rb rs).2) rb rs)∧post_gc xs ys rb rs (phi_gc xs ys rb rs):=Classical.epsilon_spec (loop_gc xs ys rb rs h)
def cond_gc (xs:List Int) (ys:List Int) (rb:Bool) (rs:ByteArray):Bool:= @decide (pre_gc xs ys rb rs) (Classical.propDecidable _)
theorem cond_gc_eq (xs:List Int) (ys:List Int) (rb:Bool) (rs:ByteArray) (h:pre_gc xs ys rb rs):cond_gc xs ys rb rs=true:= @decide_eq_true _ (Classical.propDecidable _) h
theorem told_gc_ok (T:List AV) (H:Hp) (e:Ex) (T1:List AV) (H1:Hp) (h:told_gc cond_gc phi_gc T H=some (true,e,T1,H1)):V.Ends Tryz.prog false 0 0 (.loop (lb 114 p_gc)) T H e T1 H1:=by
 unfold told_gc at h
 split at h
 ·rename_i m_xs f_xs m_ys f_ys rb rs h4 h5 h6
  rw [Bool.cond_eq_ite] at h
  split at h
  ·rename_i hlen
   rw [beq_iff_eq] at hlen
   simp only [Option.some.injEq,Prod.mk.injEq,Bool.and_eq_true,decide_eq_true_eq] at h
   obtain ⟨⟨⟨k1,k2⟩,k3⟩,rfl,rfl,rfl⟩:=h
   have kc:= @of_decide_eq_true _ (Classical.propDecidable _) k3
   refine Ends.pre (phi_gc_spec (rowOf m_xs f_xs) (rowOf m_ys f_ys) rb rs kc).1.ends (fun α B w D ys hr=>slots_rel hlen (fun p hp y hy=> ?_) hr)
   simp only [List.mem_cons,List.not_mem_nil,or_false] at hp
   rcases hp with rfl | rfl | rfl
   ·rw [h4] at hy;exact hy
   ·rw [h5] at hy;rw [rowOf_len];exact row_norm cells129 k1 hy
   ·rw [h6] at hy;rw [rowOf_len];exact row_norm cells129 k2 hy
  ·cases h
 ·cases h
theorem LL_gc_ok {L:LTab} (h:LOk Tryz.prog L):LOk Tryz.prog (LL_gc cond_gc phi_gc L):=h.add2n body_gc told_gc_ok
theorem gcd_call (S:Sg) (κ:KT_gc) (φ:FT_gc) (b c:Bool) (s t:ByteArray):callA Tryz.prog ⟨CDi S,Kall,LL_gc κ φ noL⟩ 10 10 114 [.agg [.val (.bool b), .val (.string s)], .agg [.val (.bool c), .val (.string t)]]=
  (bif S.ok s then (bif S.ok t then (bif okB (S.len (S.vs s)) (S.row (S.vs s))&&okB (S.len (S.vs t)) (S.row (S.vs t))&&κ (rowOf (S.len (S.vs s)) (S.row (S.vs s))) (rowOf (S.len (S.vs t)) (S.row (S.vs t))) false (ByteArray.mk #[]) then (bif S.okr (φ (rowOf (S.len (S.vs s)) (S.row (S.vs s))) (rowOf (S.len (S.vs t)) (S.row (S.vs t))) false (ByteArray.mk #[])).fst.length (lim (φ (rowOf (S.len (S.vs s)) (S.row (S.vs s))) (rowOf (S.len (S.vs t)) (S.row (S.vs t))) false (ByteArray.mk #[])).fst) then some (.agg [(.val (.bool (S.ng (S.sg false (S.num (φ (rowOf (S.len (S.vs s)) (S.row (S.vs s))) (rowOf (S.len (S.vs t)) (S.row (S.vs t))) false (ByteArray.mk #[])).fst.length (lim (φ (rowOf (S.len (S.vs s)) (S.row (S.vs s))) (rowOf (S.len (S.vs t)) (S.row (S.vs t))) false (ByteArray.mk #[])).fst)))))),(.val (.string (S.ms (S.sg false (S.num (φ (rowOf (S.len (S.vs s)) (S.row (S.vs s))) (rowOf (S.len (S.vs t)) (S.row (S.vs t))) false (ByteArray.mk #[])).fst.length (lim (φ (rowOf (S.len (S.vs s)) (S.row (S.vs s))) (rowOf (S.len (S.vs t)) (S.row (S.vs t))) false (ByteArray.mk #[])).fst))))))]) else none) else none) else none) else none):=by kernel_rfl
end
end Go.Proofs.YtamcpiicmfielaaGreat.L
namespace Go.Proofs.YtamcpiicmfielaaGreat.L
open Go Go.V Go.RowKit Go.Proofs.YtamcpiicmfielaaGreat.Sp Go.Proofs.YtamcpiicmfielaaGreat.F Go.Proofs.YtamcpiicmfielaaGreatW.PrintWords
open Go.Proofs (Tryz.prog)
noncomputable section
theorem floor_of {x y q r:Int} (h:r+y*q=x) (h2:(0≤r∧r < y)∨(y < r∧r≤0)):zq x y=q∧zr x y=r:=by
 unfold zq zr
 have hy:y≠0:=by omega
 rw [if_neg hy,if_neg hy]
 rcases h2 with h2 | h2
 ·exact (Int.fdiv_fmod_unique (by omega)).2 ⟨h,h2⟩
 ·exact (Int.fdiv_fmod_unique' (by omega)).2 ⟨h,h2⟩
theorem ms_nil (z:Int):strEq (sg0.ms z) (ByteArray.mk #[])=decide (z=0):=by
 show strEq (magOf z.natAbs) _=_
 rw [magOf_nil]
 exact decide_eq_decide.2 (by omega)
theorem div_fl (b c:Bool) (n m:Nat) (hm:0 < m):zq (sg0.sg b n) (sg0.sg c m)=(if n % m≠0∧b≠c then sg0.sg (!(b==c)) (n / m) - 1 else sg0.sg (!(b==c)) (n / m))∧
  zr (sg0.sg b n) (sg0.sg c m)=(if n % m≠0∧b≠c then sg0.sg b (n % m)+sg0.sg c m else sg0.sg b (n % m)):=by
 have hr:=Nat.mod_lt n hm
 have he:(n:Int)=(m:Int)*((n / m:Nat):Int)+((n % m:Nat):Int):=by
  rw [← Int.natCast_mul,← Int.natCast_add,Nat.div_add_mod]
 generalize n / m=Q at*
 generalize n % m=R at*
 have t1:∀ k:Nat,sg0.sg true k= -(k:Int):=fun k=>rfl
 have t2:∀ k:Nat,sg0.sg false k=(k:Int):=fun k=>rfl
 by_cases h:R≠0∧b≠c
 ·rw [if_pos h,if_pos h]
  have h0:=h.1
  apply floor_of
  ·cases b <;> cases c <;> first | exact absurd rfl h.2 | (simp only [show (!(true==false))=true from rfl,show (!(false==true))=true from rfl,t1,t2,he];grind)
  ·cases b <;> cases c <;> first | exact absurd rfl h.2 | (simp only [t1,t2];omega)
 ·rw [if_neg h,if_neg h]
  apply floor_of
  ·cases b <;> cases c <;> (simp only [show (!(true==false))=true from rfl,show (!(false==true))=true from rfl,show (!(true==true))=false from rfl,show (!(false==false))=false from rfl,t1,t2,he];grind)
  ·have h':R=0∨b=c:=by
    rcases Nat.eq_zero_or_pos R with h1 | h1
    ·exact Or.inl h1
    ·exact Or.inr (Classical.byContradiction fun h2=>h ⟨by omega,h2⟩)
   rcases h' with h' | h'
   ·subst h'
    cases b <;> cases c <;> (simp only [t1,t2];omega)
   ·subst h'
    cases b <;> (simp only [t1,t2];omega)
theorem val_sg (b:Bool) (s:ByteArray):sg0.val b s=sg0.sg b (sg0.vs s):=rfl
theorem eDivX (X:Xg) (hq:X.dq=zq) (hr:X.dr=zr) (he:X.de=ze):Entry Tryz.prog 115 (tDiv sg0 X):=by
 refine entry_of (E:= ⟨CDi sg0,Kall,noL⟩) (u:=10) (d:=10) CDi_ok loops_none mixed (by kernel_rfl) (fun args r h=> ?_)
 unfold tDiv at h
 split at h
 ·rename_i b s c t
  simp only [Option.some.injEq,Prod.mk.injEq,Bool.and_eq_true] at h
  obtain ⟨⟨h1,h2⟩,rfl⟩:=h
  rw [hq,hr,he]
  have hcall:=div_call sg0 b c s t
  simp only [num_row,ms_nil,val_ms] at hcall
  have hl:((sg0.len (sg0.vs t):Nat):Int)=0↔sg0.vs t=0:=len0 _
  have vt:sg0.val c t=sg0.sg c (sg0.vs t):=rfl
  by_cases h0:sg0.vs t=0
  ·have y0:sg0.val c t=0:=by rw [vt,h0];cases c <;> rfl
   rw [h2,dT (hl.2 h0)] at hcall
   rw [hcall,y0]
   unfold zq zr ze
   rw [if_pos rfl,if_pos rfl,if_pos rfl]
   unfold Sg.int
   rw [ms_zero]
   rfl
  ·have k1:=ok_out h1
   have k2:=ok_out h2
   have b1:=bs_div (sg0.vs s) (sg0.vs t)
   have b2:=bs_mod (sg0.vs s) (sg0.vs t)
   have y0:sg0.val c t≠0:=by
    intro e;have:=vs_val c t;rw [e] at this;exact h0 this
   have e10:ze (sg0.val c t)=0:=by unfold ze;rw [if_neg y0]
   obtain ⟨g1,g2⟩:=div_fl b c (sg0.vs s) (sg0.vs t) (by omega)
   rw [h1,h2,dF (fun e=>h0 (hl.1 e)),can_row (by omega),can_row (by omega),oks_row k1,oks_row k2,dT (show 0 < sg0.vs t by omega),okr_row (by omega),okr_row (by omega)] at hcall
   rw [e10,val_sg b s,val_sg c t,g1,g2]
   rw [hcall]
   clear hcall
   have t1:∀ k:Nat,sg0.sg true k= -(k:Int):=fun k=>rfl
   have t2:∀ k:Nat,sg0.sg false k=(k:Int):=fun k=>rfl
   have hz:∀ b:Bool,(sg0.sg b (sg0.vs s % sg0.vs t)=0)↔sg0.vs s % sg0.vs t=0:=by
    intro b
    cases b
    ·rw [t2];omega
    ·rw [t1];omega
   have ab:∀ (b:Bool) (k:Nat),(sg0.sg b k).natAbs=k:=by
    intro b k
    cases b
    ·rw [t2];omega
    ·rw [t1];omega
   by_cases hr0:sg0.vs s % sg0.vs t=0
   ·rw [dT ((hz b).2 hr0),if_neg (fun h=>h.1 hr0),if_neg (fun h=>h.1 hr0)]
    rfl
   ·rw [dF (fun e=>hr0 ((hz b).1 e))]
    have o1:∀ b:Bool,sg0.ok (sg0.ms (sg0.sg b (sg0.vs s / sg0.vs t)))=true:=fun b=>ok_ms (by rw [ab];omega)
    have o2:∀ b:Bool,sg0.ok (sg0.ms (sg0.sg b (sg0.vs s % sg0.vs t)))=true:=fun b=>ok_ms (by rw [ab];omega)
    have o3:sg0.ok (sg0.ms 1)=true:=ok_ms (by rw [show (1:Int).natAbs=1 from rfl];exact Nat.le_trans (bs_le (n:=1) (m:=1) (by decide)) (by decide))
    rw [o1,o2,o3]
    by_cases hbc:b=c
    ·rw [if_neg (fun h=>h.2 hbc),if_neg (fun h=>h.2 hbc)]
     subst hbc
     cases b <;> rfl
    ·rw [if_pos ⟨hr0,hbc⟩,if_pos ⟨hr0,hbc⟩]
     cases b <;> cases c <;> first | exact absurd rfl hbc | rfl
 ·cases h
theorem eGcdX (X:Xg) (hg:X.gcd=fun x y=>(Nat.gcd x.natAbs y.natAbs:Int)):Entry Tryz.prog 114 (tGcd sg0 X):=by
 refine entry_of (E:= ⟨CDi sg0,Kall,LL_gc cond_gc phi_gc noL⟩) (u:=10) (d:=10) CDi_ok (LL_gc_ok LOk.none).ok mixed (by kernel_rfl) (fun args r h=> ?_)
 unfold tGcd at h
 split at h
 ·rename_i b s c t
  simp only [Option.some.injEq,Prod.mk.injEq,Bool.and_eq_true] at h
  obtain ⟨⟨h1,h2⟩,rfl⟩:=h
  rw [hg]
  have hcall:=gcd_call sg0 cond_gc phi_gc b c s t
  have k1:=ok_out h1
  have k2:=ok_out h2
  have l1:=len_bs (sg0.vs s)
  have l2:=len_bs (sg0.vs t)
  have er:∀ n:Nat,rowOf (sg0.len n) (sg0.row n)=toL n:=fun n=>rowOf_enc n
  have eo:∀ n:Nat,okB (sg0.len n) (sg0.row n)=true:=fun n=>okB_enc n
  simp only [er,eo] at hcall
  have hp:pre_gc (toL (sg0.vs s)) (toL (sg0.vs t)) false (ByteArray.mk #[]):= ⟨_,_,rfl,rfl,Nat.le_trans l1 k1,Nat.le_trans l2 k2⟩
  obtain ⟨_,hpost⟩:=phi_gc_spec _ _ _ _ hp
  unfold post_gc at hpost
  rw [vL_toL,vL_toL] at hpost
  have hb:bs (Nat.gcd (sg0.vs s) (sg0.vs t))≤max (bs (sg0.vs s)) (bs (sg0.vs t)):=by
   rcases Nat.eq_zero_or_pos (sg0.vs s) with e | e
   ·rw [e,Nat.gcd_zero_left];exact Nat.le_max_right _ _
   ·exact Nat.le_trans (bs_mono (Nat.gcd_le_left _ e)) (Nat.le_max_left _ _)
  have hl:=len_bs (Nat.gcd (sg0.vs s) (sg0.vs t))
  have hl':(toL (Nat.gcd (sg0.vs s) (sg0.vs t))).length≤17592186044416:=Nat.le_trans hl (by omega)
  rw [h1,h2,cond_gc_eq _ _ _ _ hp,hpost,okr_len hl',num_len] at hcall
  rw [hcall]
  refine congrArg some ?_
  show sg0.int (Nat.gcd (sg0.vs s) (sg0.vs t):Nat)=_
  rw [vs_val b s,vs_val c t]
 ·cases h
def xg0:Xg where
 sv z:=if -9223372036854775808≤z∧z < 9223372036854775808 then z else 0
 sb z:=decide (-9223372036854775808≤z∧z < 9223372036854775808)
 dq:=zq
 dr:=zr
 de:=ze
 gcd x y:=(Nat.gcd x.natAbs y.natAbs:Int)
 rt z:=if z < 0 then 0 else (rootN z.natAbs:Int)
 rx z:=if z < 0 then false else decide (rootN z.natAbs*rootN z.natAbs=z.natAbs)
 re z:=if z < 0 then 2 else 0
 pr x:=ByteArray.mk #[]
 pv s:=0
 pe s:=0
 ok2 s:=decide (s.size≤68719476736)
 okp s:=true
theorem eDiv:Entry Tryz.prog 115 (tDiv sg0 xg0):=eDivX xg0 rfl rfl rfl
theorem eGcd:Entry Tryz.prog 114 (tGcd sg0 xg0):=eGcdX xg0 rfl
theorem zqr {x y:Int} (h:y≠0):zr x y+y*zq x y=x∧(0 < y→0≤zr x y∧zr x y < y)∧(y < 0→y < zr x y∧zr x y≤0):=by
 unfold zr zq
 rw [if_neg h,if_neg h]
 rcases Int.lt_or_gt_of_ne h with h1 | h1
 ·have:=(Int.fdiv_fmod_unique' (a:=x) h1).1 ⟨rfl,rfl⟩
  exact ⟨this.1,fun h=>by omega,fun _=>this.2⟩
 ·have:=(Int.fdiv_fmod_unique (a:=x) h1).1 ⟨rfl,rfl⟩
  exact ⟨this.1,fun _=>this.2,fun h=>by omega⟩
theorem bs_zq (x y:Int):bs (zq x y).natAbs≤bs x.natAbs+1:=by
 by_cases h:y=0
 ·unfold zq;rw [if_pos h];exact Nat.le_trans (bs_le (n:=(0:Int).natAbs) (m:=0) (by decide)) (Nat.zero_le _)
 ·obtain ⟨e,h1,h2⟩:=zqr (x:=x) h
  have key:(zq x y).natAbs≤x.natAbs+1:=by
   generalize zr x y=r at*
   generalize zq x y=q at*
   have hm:(y*q).natAbs=y.natAbs*q.natAbs:=Int.natAbs_mul y q
   rcases Nat.lt_or_ge (x.natAbs+1) q.natAbs with h3 | h3
   ·have h4:y.natAbs*(x.natAbs+2)≤y.natAbs*q.natAbs:=Nat.mul_le_mul_left _ h3
    have h5:1*x.natAbs≤y.natAbs*x.natAbs:=Nat.mul_le_mul_right _ (by omega)
    rw [Nat.mul_add] at h4
    rcases Int.lt_or_gt_of_ne h with h6 | h6
    ·have:=h2 h6;omega
    ·have:=h1 h6;omega
   ·exact h3
  have:=bs_add x.natAbs 1
  have h1:bs 1≤1:=bs_le (by decide)
  have h2:=bs_mono key
  rcases Nat.eq_zero_or_pos x.natAbs with e0 | e0
  ·rw [e0] at key h2 ⊢
   have:bs (0+1)≤1:=h1
   omega
  ·have h3:1≤bs x.natAbs:=by
    rcases Nat.eq_zero_or_pos (bs x.natAbs) with e1 | e1
    ·have:=bs_lt x.natAbs
     rw [e1] at this
     omega
    ·exact e1
   omega
theorem ez0:ze 0=10:=if_pos rfl
theorem ezn {y:Int} (h:y≠0):ze y=0:=if_neg h
end
end Go.Proofs.YtamcpiicmfielaaGreat.L
namespace Go.Proofs.YtamcpiicmfielaaGreat.L
open Go Go.V Go.RowKit Go.Proofs.YtamcpiicmfielaaGreat.Sp Go.Proofs.YtamcpiicmfielaaGreat.F
open Go.Proofs (Tryz.prog)
noncomputable section
theorem vnil:sg0.val false (ByteArray.mk #[])=0:=of_eq_true (eq_true rfl)
theorem x_dq:xg0.dq=zq:=of_eq_true (eq_true rfl)
theorem x_de:xg0.de=ze:=of_eq_true (eq_true rfl)
theorem ng_nn {x:Int} (h:0≤x):sg0.ng x=false:=by
 show (enc x).1=false
 unfold enc
 simp only [decide_eq_false_iff_not]
 omega
theorem beq_dec {p q:Prop} [Decidable p] [Decidable q] (h:p↔q):(decide p==decide q)=true:=by
 rw [decide_eq_decide.2 h];exact beq_self_eq_true _
theorem bne_dec {p q:Prop} [Decidable p] [Decidable q] (h:¬ (p↔q)):(decide p==decide q)=false:=by
 by_cases hp:p <;> by_cases hq:q
 ·exact absurd ⟨fun _=>hq,fun _=>hp⟩ h
 ·rw [decide_eq_true hp,decide_eq_false hq];rfl
 ·rw [decide_eq_false hp,decide_eq_true hq];rfl
 ·exact absurd ⟨fun k=>absurd k hp,fun k=>absurd k hq⟩ h
end
end Go.Proofs.YtamcpiicmfielaaGreat.L
namespace Go.Proofs.YtamcpiicmfielaaGreat.L
open Go Go.V Go.RowKit Go.Proofs.YtamcpiicmfielaaGreat.Sp Go.Proofs.YtamcpiicmfielaaGreat.F
open Go.Proofs (Tryz.prog)
noncomputable section
def zg (x y:Int):Int:=(Nat.gcd x.natAbs y.natAbs:Nat)
theorem x_gcd:xg0.gcd=zg:=of_eq_true (eq_true rfl)
theorem bs_zg (x y:Int):bs (zg x y).natAbs≤max (bs x.natAbs) (bs y.natAbs):=by
 unfold zg
 rw [Int.natAbs_natCast]
 rcases Nat.eq_zero_or_pos x.natAbs with e | e
 ·rw [e,Nat.gcd_zero_left];exact Nat.le_max_right _ _
 ·exact Nat.le_trans (bs_mono (Nat.gcd_le_left _ e)) (Nat.le_max_left _ _)
end
end Go.Proofs.YtamcpiicmfielaaGreat.L
namespace Go.Proofs.YtamcpiicmfielaaGreat.L
open Go Go.V Go.RowKit Go.Proofs.YtamcpiicmfielaaGreat.Sp Go.Proofs.YtamcpiicmfielaaGreat.F Go.Proofs.YtamcpiicmfielaaGreatW.PrintWords
open Go.Proofs (Tryz.prog)
noncomputable section
def CRo (S:Sg):FuncId→List AV→Option (Bool×AV):=addC 106 (tLoad S) (addC 152 (tDivide S) (addC 118 (tPlus S) (addC 158 (tUnshift S) (addC 107 (tCompareL S) (addC 109 (tTimes S) (addC 157 (tSize S) (addC 108 (tPack S) noC)))))))
theorem CRo_ok:Meets Tryz.prog (CRo sg0):=((((((((meets_none _).add ePack).add eSize).add eTimes).add eCompareL).add eUnshift).add ePlus).add eDivide).add eLoad
abbrev p_rtB:List Bool:= [false,false,true,true,true,true,true,true]
def sh_rtB (xs:List Int) (ys:List Int) (rb:Bool) (rs:ByteArray):List AV:=slots 56 [(2, .ptr 0 0),(5, .lst false 129 xs.length (lim xs)),(7, .lst false 129 ys.length (lim ys))]
def hp_rtB (xs:List Int) (ys:List Int) (rb:Bool) (rs:ByteArray):Hp:= [.row (.cells [.val (.bool rb), .val (.string rs)]) 81 .live]
theorem code_rtB:subC Tryz.prog 123 (false :: p_rtB)=some (lb 123 p_rtB):=by kernel_rfl
theorem round_rtB (S:Sg) (xs:List Int) (ys:List Int) (rb:Bool) (rs:ByteArray):letI q_3:=(S.num xs.length (lim xs) / S.num ys.length (lim ys));letI q_1:=(S.num ys.length (lim ys)+S.num (S.len q_3) (S.row q_3));letI q_2:=(S.num (S.len q_1) (S.row q_1) / (2:Nat));
  (roundA Tryz.prog ⟨CRo S,Kall,noL⟩ 123 [2,5,7] (lb 123 p_rtB) (false :: p_rtB) (sh_rtB xs ys rb rs) (hp_rtB xs ys rb rs)=(bif S.can xs.length (lim xs)&&S.can ys.length (lim ys)&&S.oks xs.length (lim xs)&&S.oks ys.length (lim ys)&&decide ((0:Nat) < S.num ys.length (lim ys)) then (bif S.oks ys.length (lim ys)&&S.oks (S.len q_3) (S.row q_3) then (bif S.okr (S.len q_1) (S.row q_1)&&true&&true then (bif S.can (S.len q_2) (S.row q_2)&&S.can ys.length (lim ys) then (bif decide ((0:Int)≤S.cmp (S.num (S.len q_2) (S.row q_2)) (S.num ys.length (lim ys))) then some ((.exit 0),slots 56 [(2,(.ptr 0 0)),(5,(.lst false 129 xs.length (lim xs))),(7,(.lst false 129 ys.length (lim ys)))], [(.row (.cells [(.val (.bool rb)),(.val (.string rs))]) 81 .live)]) else some (.normal,slots 56 [(2,(.ptr 0 0)),(5,(.lst false 129 xs.length (lim xs))),(7,(.lst false 129 (S.len q_2) (S.row q_2)))], [(.row (.cells [(.val (.bool rb)),(.val (.string rs))]) 81 .live)])) else none) else none) else none) else none)):=by kernel_rfl
theorem step_rtB {xs:List Int} {ys:List Int} {rb:Bool} {rs:ByteArray} {e:Ex} {T:List AV} {H:Hp} (h:roundA Tryz.prog ⟨CRo sg0,Kall,noL⟩ 123 [2,5,7] (lb 123 p_rtB) (false :: p_rtB) (sh_rtB xs ys rb rs) (hp_rtB xs ys rb rs)=some (e,T,H)):V.Ends Tryz.prog false 0 0 (lb 123 p_rtB) (sh_rtB xs ys rb rs) (hp_rtB xs ys rb rs) e T H:=
 round_ends CRo_ok loops_none mixed code_rtB h
abbrev p_rtA:List Bool:= [false,false,true,true,true,true,true,true]
def sh_rtA (xs:List Int) (ys:List Int) (rb:Bool) (rs:ByteArray):List AV:=slots 56 [(2, .ptr 0 0),(5, .lst false 129 xs.length (lim xs)),(7, .sl false 129 1 0 ys.length)]
def hp_rtA (xs:List Int) (ys:List Int) (rb:Bool) (rs:ByteArray):Hp:= [.row (.cells [.val (.bool rb), .val (.string rs)]) 81 .live, .row (.ints .u32 ys) 129 .live]
theorem body_rtA:subC Tryz.prog 123 p_rtA=some (.loop (lb 123 p_rtA)):=by kernel_rfl
theorem code_rtA:subC Tryz.prog 123 (false :: p_rtA)=some (lb 123 p_rtA):=by kernel_rfl
theorem round_rtA (S:Sg) (xs:List Int) (ys:List Int) (rb:Bool) (rs:ByteArray):letI q_3:=(S.num xs.length (lim xs) / S.num ys.length (lim ys));letI q_1:=(S.num ys.length (lim ys)+S.num (S.len q_3) (S.row q_3));letI q_2:=(S.num (S.len q_1) (S.row q_1) / (2:Nat));
  (roundA Tryz.prog ⟨CRo S,Kall,noL⟩ 123 [2,5,7] (lb 123 p_rtA) (false :: p_rtA) (sh_rtA xs ys rb rs) (hp_rtA xs ys rb rs)=(bif decide ((0:Nat)+ys.length*(1:Nat)≤ys.length) then (bif S.can xs.length (lim xs)&&S.can ys.length (lim ys)&&S.oks xs.length (lim xs)&&S.oks ys.length (lim ys)&&decide ((0:Nat) < S.num ys.length (lim ys)) then (bif decide ((0:Nat)+ys.length*(1:Nat)≤ys.length) then (bif S.oks ys.length (lim ys)&&S.oks (S.len q_3) (S.row q_3) then (bif S.okr (S.len q_1) (S.row q_1)&&true&&true then (bif decide ((0:Nat)+ys.length*(1:Nat)≤ys.length) then (bif S.can (S.len q_2) (S.row q_2)&&S.can ys.length (lim ys) then (bif decide ((0:Int)≤S.cmp (S.num (S.len q_2) (S.row q_2)) (S.num ys.length (lim ys))) then some ((.exit 0),slots 56 [(2,(.ptr 0 0)),(5,(.lst false 129 xs.length (lim xs))),(7,(.sl false 129 1 0 ys.length))], [(.row (.cells [(.val (.bool rb)),(.val (.string rs))]) 81 .live),(.row (.ints .u32 ys) 129 .froz)]) else some (.normal,slots 56 [(2,(.ptr 0 0)),(5,(.lst false 129 xs.length (lim xs))),(7,(.lst false 129 (S.len q_2) (S.row q_2)))], [(.row (.cells [(.val (.bool rb)),(.val (.string rs))]) 81 .live)])) else none) else none) else none) else none) else none) else none) else none)):=by kernel_rfl
theorem step_rtA {xs:List Int} {ys:List Int} {rb:Bool} {rs:ByteArray} {e:Ex} {T:List AV} {H:Hp} (h:roundA Tryz.prog ⟨CRo sg0,Kall,noL⟩ 123 [2,5,7] (lb 123 p_rtA) (false :: p_rtA) (sh_rtA xs ys rb rs) (hp_rtA xs ys rb rs)=some (e,T,H)):V.Ends Tryz.prog false 0 0 (lb 123 p_rtA) (sh_rtA xs ys rb rs) (hp_rtA xs ys rb rs) e T H:=
 round_ends CRo_ok loops_none mixed code_rtA h
theorem cmp_le (y x:Nat):0≤sg0.cmp y x↔x≤y:=by
 show 0≤cmpN y x↔_
 unfold cmpN
 split <;> (try split) <;> omega
theorem oksR {n:Nat} (h:(toL n).length≤8796093022208):sg0.oks (sg0.len n) (sg0.row n)=true:=oks_len h
theorem okrR {n:Nat} (h:(toL n).length≤17592186044416):sg0.okr (sg0.len n) (sg0.row n)=true:=okr_len h
theorem canR {n:Nat} (h:(toL n).length≤17592186044416):sg0.can (sg0.len n) (sg0.row n)=true:=can_len h
theorem rt_sizes {a x:Nat} (ha:(toL a).length≤1099511627776) (hlx:(toL x).length≤1099511627776):(toL (a / x)).length≤1099511627776∧(toL (x+a / x)).length≤2199023255554∧(toL ((x+a / x) / 2)).length≤2199023255554:=by
 have hql:(toL (a / x)).length≤(toL a).length:=len_le_of_le (Nat.div_le_self a x)
 have hsum:(toL (x+a / x)).length≤2199023255554:=Nat.le_trans (len_add hlx (show (toL (a / x)).length≤1099511627776 by omega)) (by omega)
 exact ⟨by omega,hsum,Nat.le_trans (len_le_of_le (Nat.div_le_self _ 2)) hsum⟩
theorem rtB_go (rb:Bool) (rs:ByteArray) (a:Nat) (ha0:0 < a) (ha:(toL a).length≤1099511627776) (n:Nat):∀ x:Nat,x=n→0 < x→(toL x).length≤1099511627776→a < (x+1)*(x+1)→
  LoopTo Tryz.prog (lb 123 p_rtB) (sh_rtB (toL a) (toL x) rb rs) (hp_rtB (toL a) (toL x) rb rs) (.exit 0) (sh_rtB (toL a) (toL (rootN a)) rb rs) (hp_rtB (toL a) (toL (rootN a)) rb rs):=by
 induction n using Nat.strongRecOn with
 | _ n ih=>
  intro x hn hx hlx hax
  obtain ⟨s1,s2,s3⟩:=rt_sizes ha hlx
  have hr:=round_rtB sg0 (toL a) (toL x) rb rs
  simp only [num_len,num_row] at hr
  rw [can_len (n:=a) (by omega),can_len (n:=x) (by omega),oks_len (n:=a) (by omega),oks_len (n:=x) (by omega),dT (show 0 < x from hx),oksR (n:=a / x) (by omega),okrR (n:=x+a / x) (by omega),canR (n:=(x+a / x) / 2) (by omega)] at hr
  by_cases hstop:x≤(x+a / x) / 2
  ·have hxa:=newton_stop hx hstop
   have hr2:=rootN_is a
   have hxr:x=rootN a:=root_uniq hxa hax hr2.1 hr2.2
   rw [← hxr]
   refine .last (step_rtB ?_) (by intro h;cases h)
   rw [hr,dT ((cmp_le _ _).2 hstop)]
   rfl
  ·have hy0:0 < (x+a / x) / 2:=by
    rcases Nat.eq_zero_or_pos ((x+a / x) / 2) with h | h
    ·have:=newton_ge (a:=a) hx
     rw [h] at this
     omega
    ·exact h
   have hrec:=ih ((x+a / x) / 2) (by omega) _ rfl hy0 (Nat.le_trans (len_le_of_le (show (x+a / x) / 2≤x by omega)) hlx) (newton_ge hx)
   refine .more (step_rtB ?_) hrec
   rw [hr,dF (fun h=>hstop ((cmp_le _ _).1 h))]
   rfl
def pre_rtA (xs ys:List Int) (rb:Bool) (rs:ByteArray):Prop:=∃ a x:Nat,xs=toL a∧ys=toL x∧0 < a∧(toL a).length≤1099511627776∧(toL x).length≤1099511627776∧a < x*x
def post_rtA (xs ys:List Int) (rb:Bool) (rs:ByteArray) (r:List Int):Prop:=r=toL (rootN (vL xs))
theorem loop_rtA (xs ys:List Int) (rb:Bool) (rs:ByteArray) (h:pre_rtA xs ys rb rs):∃ r:List Int,LoopTo Tryz.prog (lb 123 p_rtA) (sh_rtA xs ys rb rs) (hp_rtA xs ys rb rs) (.exit 0) (sh_rtB xs r rb rs) (hp_rtB xs r rb rs)∧post_rtA xs ys rb rs r:=by
 obtain ⟨a,x,rfl,rfl,ha0,ha,hlx,hax⟩:=h
 unfold post_rtA
 rw [vL_toL]
 have hx:0 < x:=by
  rcases Nat.eq_zero_or_pos x with h | h
  ·subst h;omega
  ·exact h
 have hq:a / x < x:=Nat.div_lt_of_lt_mul hax
 obtain ⟨s1,s2,s3⟩:=rt_sizes ha hlx
 have hy0:0 < (x+a / x) / 2:=by
  rcases Nat.eq_zero_or_pos ((x+a / x) / 2) with h | h
  ·have:=newton_ge (a:=a) hx
   rw [h] at this
   omega
  ·exact h
 have hrec:=rtB_go rb rs a ha0 ha _ ((x+a / x) / 2) rfl hy0 (Nat.le_trans (len_le_of_le (show (x+a / x) / 2≤x by omega)) hlx) (newton_ge hx)
 refine ⟨toL (rootN a), .more (step_rtA ?_) hrec,rfl⟩
 have hr:=round_rtA sg0 (toL a) (toL x) rb rs
 simp only [num_len,num_row] at hr
 rw [dT (show 0+(toL x).length*1≤(toL x).length by omega),can_len (n:=a) (by omega),can_len (n:=x) (by omega),oks_len (n:=a) (by omega),oks_len (n:=x) (by omega),dT (show 0 < x from hx),oksR (n:=a / x) (by omega),okrR (n:=x+a / x) (by omega),canR (n:=(x+a / x) / 2) (by omega),dF (fun h=>absurd ((cmp_le _ _).1 h) (by omega))] at hr
 rw [hr]
 rfl
def told_rtA (κ:List Int→List Int→Bool→ByteArray→Bool) (φ:List Int→List Int→Bool→ByteArray→List Int) (T:List AV) (H:Hp):Option (Bool×Ex×List AV×Hp):=
 match lget T 2,lget T 5,lget T 7,H with
 | .ptr 0 0, .lst false 129 m_xs f_xs, .sl false 129 1 0 m_ys, [.row (.cells [.val (.bool rb), .val (.string rs)]) 81 .live, .row (.ints .u32 ys) 129 .live]=>bif T.length==56 then some (okB m_xs f_xs&&decide (m_ys=ys.length)&&κ (rowOf m_xs f_xs) ys rb rs, .exit 0,sh_rtB (rowOf m_xs f_xs) ((φ (rowOf m_xs f_xs) ys rb rs)) rb rs,hp_rtB (rowOf m_xs f_xs) ((φ (rowOf m_xs f_xs) ys rb rs)) rb rs) else none
 | _,_,_,_=>none
abbrev KT_rtA:Type:=List Int→List Int→Bool→ByteArray→Bool
abbrev FT_rtA:Type:=List Int→List Int→Bool→ByteArray→List Int
def LL_rtA (κ:KT_rtA) (φ:FT_rtA) (L:LTab):LTab:=addLn 0 123 p_rtA [2,5,7] (told_rtA κ φ) L
def phi_rtA (xs:List Int) (ys:List Int) (rb:Bool) (rs:ByteArray):List Int:=Classical.epsilon fun ρ=>LoopTo Tryz.prog (lb 123 p_rtA) (sh_rtA xs ys rb rs) (hp_rtA xs ys rb rs) (.exit 0) (sh_rtB xs (ρ) rb rs) (hp_rtB xs (ρ) rb rs)∧post_rtA xs ys rb rs ρ
theorem phi_rtA_spec (xs:List Int) (ys:List Int) (rb:Bool) (rs:ByteArray) (h:pre_rtA xs ys rb rs):LoopTo Tryz.prog (lb 123 p_rtA) (sh_rtA xs ys rb rs) (hp_rtA xs ys rb rs) (.exit 0) (sh_rtB xs ((phi_rtA xs ys rb rs)) rb rs) (hp_rtB xs ((phi_rtA xs ys rb rs)) rb rs)∧post_rtA xs ys rb rs (phi_rtA xs ys rb rs):=Classical.epsilon_spec (loop_rtA xs ys rb rs h)
def cond_rtA (xs:List Int) (ys:List Int) (rb:Bool) (rs:ByteArray):Bool:= @decide (pre_rtA xs ys rb rs) (Classical.propDecidable _)
theorem cond_rtA_eq (xs:List Int) (ys:List Int) (rb:Bool) (rs:ByteArray) (h:pre_rtA xs ys rb rs):cond_rtA xs ys rb rs=true:= @decide_eq_true _ (Classical.propDecidable _) h
theorem told_rtA_ok (T:List AV) (H:Hp) (e:Ex) (T1:List AV) (H1:Hp) (h:told_rtA cond_rtA phi_rtA T H=some (true,e,T1,H1)):V.Ends Tryz.prog false 0 0 (.loop (lb 123 p_rtA)) T H e T1 H1:=by
 unfold told_rtA at h
 split at h
 ·rename_i m_xs f_xs m_ys rb rs ys h2 h5 h7
  rw [Bool.cond_eq_ite] at h
  split at h
  ·rename_i hlen
   rw [beq_iff_eq] at hlen
   simp only [Option.some.injEq,Prod.mk.injEq,Bool.and_eq_true,decide_eq_true_eq] at h
   obtain ⟨⟨⟨k1,k2⟩,k3⟩,rfl,rfl,rfl⟩:=h
   have kc:= @of_decide_eq_true _ (Classical.propDecidable _) k3
   refine Ends.pre (phi_rtA_spec (rowOf m_xs f_xs) ys rb rs kc).1.ends (fun α B w D ys hr=>slots_rel hlen (fun p hp y hy=> ?_) hr)
   simp only [List.mem_cons,List.not_mem_nil,or_false] at hp
   rcases hp with rfl | rfl | rfl
   ·rw [h2] at hy;exact hy
   ·rw [h5] at hy;rw [rowOf_len];exact row_norm cells129 k1 hy
   ·rw [h7] at hy;rw [← k2];exact hy
  ·cases h
 ·cases h
theorem LL_rtA_ok {L:LTab} (h:LOk Tryz.prog L):LOk Tryz.prog (LL_rtA cond_rtA phi_rtA L):=h.add2n body_rtA told_rtA_ok
theorem root_call (S:Sg) (κ:KT_rtA) (φ:FT_rtA) (b:Bool) (s:ByteArray):letI q_4:=(rowOf (S.len (S.vs s)) (S.row (S.vs s)));letI q_2:=(((↑(S.bl (S.num (S.len (S.vs s)) (S.row (S.vs s)))):Int)+(1:Int)).tdiv (2:Int));letI q_3:=(List.take ((q_2.tdiv (32:Int)).toNat*(1:Nat)) (List.replicate (q_2.tdiv (32:Int)).toNat (0:Int)) ++ [IntKind.u32.wrap ((1:Int)*(2:Int) ^ min (q_2.tmod (32:Int)).toNat (32:Nat))]);letI q_1:=(φ q_4 q_3 false (ByteArray.mk #[]));letI q_5:=(S.num q_1.length (lim q_1)*S.num q_1.length (lim q_1));
  (callA Tryz.prog ⟨CRo S,Kall,LL_rtA κ φ noL⟩ 10 10 123 [.agg [.val (.bool b), .val (.string s)]]=(bif S.ok s then (bif decide ((↑(S.len (S.vs s)):Int)=(0:Int)) then some (.tup [(.agg [(.val (.bool false)),(.val (.string (ByteArray.mk #[])))]),(.val (.bool true)),(.val (.int .i64 0))]) else (bif b then some (.tup [(.agg [(.val (.bool false)),(.val (.string (ByteArray.mk #[])))]),(.val (.bool false)),(.val (.int .i64 2))]) else (bif S.can (S.len (S.vs s)) (S.row (S.vs s)) then (bif inR IntKind.i64 ((↑(S.bl (S.num (S.len (S.vs s)) (S.row (S.vs s)))):Int)+(1:Int)) then (bif inR IntKind.i64 q_2 then (bif inR IntKind.i64 (q_2.tdiv (32:Int)) then (bif decide (q_2.tdiv (32:Int)≤q_2.tdiv (32:Int))&&decide ((4:Int)*q_2.tdiv (32:Int)≤(281474976710656:Int))&&decide (q_2.tdiv (32:Int)≤(9223372036854775807:Int)) then (bif decide ((q_2.tdiv (32:Int)).toNat*(1:Nat)≤(List.replicate (q_2.tdiv (32:Int)).toNat (0:Int)).length)&&roomA Tryz.prog ((q_2.tdiv (32:Int)).toNat+(1:Nat)) (129:Nat)&&true then (bif okB (S.len (S.vs s)) (S.row (S.vs s))&&decide ((q_2.tdiv (32:Int)).toNat+(1:Nat)=q_3.length)&&κ q_4 q_3 false (ByteArray.mk #[]) then (bif S.okr q_1.length (lim q_1) then (bif S.oks q_1.length (lim q_1)&&S.oks q_1.length (lim q_1) then (bif S.can (S.len q_5) (S.row q_5)&&S.can q_4.length (lim q_4) then some (.tup [(.agg [(.val (.bool (S.ng (S.sg false (S.num q_1.length (lim q_1)))))),(.val (.string (S.ms (S.sg false (S.num q_1.length (lim q_1))))))]),(.val (.bool (decide (S.cmp (S.num (S.len q_5) (S.row q_5)) (S.num q_4.length (lim q_4))=(0:Int))))),(.val (.int .i64 0))]) else none) else none) else none) else none) else none) else none) else none) else none) else none) else none))) else none)):=by kernel_rfl
end
end Go.Proofs.YtamcpiicmfielaaGreat.L
namespace Go.Proofs.YtamcpiicmfielaaGreat.L
open Go Go.V Go.RowKit Go.Proofs.YtamcpiicmfielaaGreat.Sp Go.Proofs.YtamcpiicmfielaaGreat.F Go.Proofs.YtamcpiicmfielaaGreatW.PrintWords
open Go.Proofs (Tryz.prog)
noncomputable section
theorem x_rt {z:Int} (h:¬ z < 0):xg0.rt z=(rootN z.natAbs:Int):=if_neg h
theorem x_rx {z:Int} (h:¬ z < 0):xg0.rx z=decide (rootN z.natAbs*rootN z.natAbs=z.natAbs):=if_neg h
theorem x_re {z:Int} (h:¬ z < 0):xg0.re z=0:=if_neg h
theorem x_rt2 {z:Int} (h:z < 0):xg0.rt z=0:=if_pos h
theorem x_rx2 {z:Int} (h:z < 0):xg0.rx z=false:=if_pos h
theorem x_re2 {z:Int} (h:z < 0):xg0.re z=2:=if_pos h
theorem p256 (m:Nat):256 ^ m=2 ^ (8*m):=by rw [Nat.pow_mul]
theorem root_le (a:Nat):rootN a≤a:=by
 have h:=(rootN_is a).1
 rcases Nat.eq_zero_or_pos (rootN a) with h0 | h0
 ·omega
 ·exact Nat.le_trans (Nat.le_mul_of_pos_left _ h0) h
theorem cmp_eq0 (y x:Nat):sg0.cmp y x=0↔y=x:=by
 show cmpN y x=0↔_
 unfold cmpN
 split <;> (try split) <;> omega
theorem root_go (s:ByteArray) (h1:s.size≤68719476736) (h0:sg0.vs s≠0):callA Tryz.prog ⟨CRo sg0,Kall,LL_rtA cond_rtA phi_rtA noL⟩ 10 10 123 [.agg [.val (.bool false), .val (.string s)]]=some (.tup [sg0.int (rootN (sg0.vs s):Nat), .val (.bool (decide (rootN (sg0.vs s)*rootN (sg0.vs s)=sg0.vs s))), .val (.int .i64 0)]):=by
 have hcall:=root_call sg0 cond_rtA phi_rtA false s
 have hb:=bs_vs s
 have hl:=len_bs (sg0.vs s)
 have hlen:sg0.vs s < 2 ^ (8*s.size):=by rw [← p256];exact vS_lt s
 have hbl:=bl_le _ _ hlen
 have hbl1:sg0.vs s < 2 ^ sg0.bl (sg0.vs s):=(blen_is (sg0.vs s)).1
 have er:rowOf (sg0.len (sg0.vs s)) (sg0.row (sg0.vs s))=toL (sg0.vs s):=rowOf_enc _
 have eo:okB (sg0.len (sg0.vs s)) (sg0.row (sg0.vs s))=true:=okB_enc _
 have hl0:((sg0.len (sg0.vs s):Nat):Int)=0↔sg0.vs s=0:=len0 _
 have hl':(toL (sg0.vs s)).length≤1099511627776:=Nat.le_trans hl (by omega)
 rw [show sg0.ok s=true from decide_eq_true (by omega),dF (fun e=>h0 (hl0.1 e))] at hcall
 simp only [num_row] at hcall
 have hcan:sg0.can (sg0.len (sg0.vs s)) (sg0.row (sg0.vs s))=true:=canR (by omega)
 rw [hcan,er,eo] at hcall
 clear er eo hl0 hb hl hlen hcan
 generalize sg0.vs s=a at*
 generalize sg0.bl a=l at*
 have e1:((l:Int)+1).tdiv 2=(((l+1) / 2:Nat):Int):=rfl
 rw [e1] at hcall
 have hK:l≤2*((l+1) / 2):=by omega
 have hK2:(l+1) / 2≤274877906945:=by omega
 generalize (l+1) / 2=K at*
 have e2:(K:Int).tdiv 32=((K / 32:Nat):Int):=rfl
 have e3:(K:Int).tmod 32=((K % 32:Nat):Int):=rfl
 rw [e2,e3,Int.toNat_natCast,Int.toNat_natCast] at hcall
 have hL:List.take (K / 32*1) (List.replicate (K / 32) (0:Int)) ++ [IntKind.u32.wrap (1*2 ^ min (K % 32) 32)]=toL (2 ^ K):=by
  rw [Nat.mul_one,List.take_of_length_le (by rw [List.length_replicate];exact Nat.le_refl _)]
  exact start_list K (by omega)
 have hLl:(toL (2 ^ K)).length=K / 32+1:=by
  rw [← hL,Nat.mul_one,List.take_of_length_le (by rw [List.length_replicate];exact Nat.le_refl _),List.length_append,List.length_replicate]
  rfl
 rw [hL,hLl] at hcall
 have hpw:a < 2 ^ K*2 ^ K:=by
  rw [← Nat.pow_add]
  exact Nat.lt_of_lt_of_le hbl1 (Nat.pow_le_pow_right (by decide) (by omega))
 have hp:pre_rtA (toL a) (toL (2 ^ K)) false (ByteArray.mk #[]):= ⟨a,2 ^ K,rfl,rfl,by omega,hl',by rw [hLl];omega,hpw⟩
 obtain ⟨_,hpost⟩:=phi_rtA_spec _ _ _ _ hp
 unfold post_rtA at hpost
 rw [vL_toL] at hpost
 have hr:=rootN_is a
 have hrl:=len_mono (root_le a)
 have hrr:=len_mono hr.1
 rw [cond_rtA_eq _ _ _ _ hp,hpost,i64T (show -9223372036854775808≤(l:Int)+1∧(l:Int)+1≤9223372036854775807 by omega),i64T (show -9223372036854775808≤(K:Int)∧(K:Int)≤9223372036854775807 by omega),i64T (show -9223372036854775808≤((K / 32:Nat):Int)∧((K / 32:Nat):Int)≤9223372036854775807 by omega),
  dT (show ((K / 32:Nat):Int)≤((K / 32:Nat):Int) by omega),dT (show (4:Int)*((K / 32:Nat):Int)≤281474976710656 by omega),dT (show ((K / 32:Nat):Int)≤9223372036854775807 by omega),dT (show K / 32*1≤(List.replicate (K / 32) (0:Int)).length by rw [List.length_replicate];omega),room64 _ (by omega),dT (show K / 32+1=K / 32+1 from rfl),okr_len (n:=rootN a) (by omega),oks_len (n:=rootN a) (by omega)] at hcall
 simp only [num_len,num_row] at hcall
 rw [canR (n:=rootN a*rootN a) (by omega),can_len (n:=a) (by omega)] at hcall
 rw [hcall]
 refine congrArg some ?_
 show AV.tup [sg0.int (rootN a:Nat), .val (.bool (decide (sg0.cmp (rootN a*rootN a) a=0))), .val (.int .i64 0)]=_
 rw [decide_eq_decide.2 (cmp_eq0 (rootN a*rootN a) a)]
theorem eRoot:Entry Tryz.prog 123 (tRoot sg0 xg0):=by
 refine entry_of (E:= ⟨CRo sg0,Kall,LL_rtA cond_rtA phi_rtA noL⟩) (u:=10) (d:=10) CRo_ok (LL_rtA_ok LOk.none).ok mixed (by kernel_rfl) (fun args r h=> ?_)
 unfold tRoot at h
 split at h
 ·rename_i b s
  simp only [Option.some.injEq,Prod.mk.injEq] at h
  obtain ⟨h1,rfl⟩:=h
  have h1:s.size≤68719476736:=of_decide_eq_true h1
  have hl0:((sg0.len (sg0.vs s):Nat):Int)=0↔sg0.vs s=0:=len0 _
  have hok:sg0.ok s=true:=decide_eq_true (by omega)
  have t1:∀ k:Nat,sg0.sg true k= -(k:Int):=fun k=>rfl
  have t2:∀ k:Nat,sg0.sg false k=(k:Int):=fun k=>rfl
  have hv:sg0.val b s=sg0.sg b (sg0.vs s):=rfl
  rw [hv]
  by_cases h0:sg0.vs s=0
  ·have hcall:=root_call sg0 cond_rtA phi_rtA b s
   rw [hok,dT (hl0.2 h0)] at hcall
   rw [hcall,h0]
   have z0:sg0.sg b 0=0:=by cases b <;> rfl
   rw [z0,x_rt (by decide),x_rx (by decide),x_re (by decide)]
   unfold Sg.int
   rw [show ((rootN (0:Int).natAbs:Nat):Int)=0 from rfl,ms_zero]
   rfl
  ·cases b
   ·rw [root_go s h1 h0,t2,x_rt (by omega),x_rx (by omega),x_re (by omega),Int.natAbs_natCast]
   ·have hcall:=root_call sg0 cond_rtA phi_rtA true s
    rw [hok,dF (fun e=>h0 (hl0.1 e))] at hcall
    rw [hcall,t1,x_rt2 (by omega),x_rx2 (by omega),x_re2 (by omega)]
    unfold Sg.int
    rw [ms_zero]
    rfl
 ·cases h
end
end Go.Proofs.YtamcpiicmfielaaGreat.L
