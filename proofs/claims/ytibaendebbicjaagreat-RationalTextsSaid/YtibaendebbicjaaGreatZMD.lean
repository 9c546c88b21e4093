import Derived.Test.YtibaendebbicjaaGreatZL
import Derived.Test.YtibaendebbicjaaGreatZMA
set_option linter.unusedVariables false
set_option linter.unusedSimpArgs false
namespace Go.Proofs.YtibaendebbicjaaGreat.L
open Go Go.V Go.RowKit Go.Proofs.YtibaendebbicjaaGreat.Sp
open Go.Proofs (Tryz.prog)
noncomputable section
structure Xg where
 sv:Int→Int
 sb:Int→Bool
 dq:Int→Int→Int
 dr:Int→Int→Int
 de:Int→Int
 gcd:Int→Int→Int
 rt:Int→Int
 rx:Int→Bool
 re:Int→Int
 pr:Int→ByteArray
 pv:ByteArray→Int
 pe:ByteArray→Int
 ok2:ByteArray→Bool
 okp:ByteArray→Bool
def tSmall (S:Sg) (X:Xg) (args:List AV):Option (Bool×AV):=match args with | [.agg [.val (.bool b), .val (.string s)]]=>some (S.ok s, .tup [.val (.int .i64 (X.sv (S.val b s))), .val (.bool (X.sb (S.val b s)))]) | _=>none
def tDiv (S:Sg) (X:Xg) (args:List AV):Option (Bool×AV):=match args with | [.agg [.val (.bool b), .val (.string s)], .agg [.val (.bool c), .val (.string t)]]=>some (S.ok s&&S.ok t, .tup [S.int (X.dq (S.val b s) (S.val c t)),S.int (X.dr (S.val b s) (S.val c t)), .val (.int .i64 (X.de (S.val c t)))]) | _=>none
def tGcd (S:Sg) (X:Xg) (args:List AV):Option (Bool×AV):=match args with | [.agg [.val (.bool b), .val (.string s)], .agg [.val (.bool c), .val (.string t)]]=>some (S.ok s&&S.ok t,S.int (X.gcd (S.val b s) (S.val c t))) | _=>none
end
end Go.Proofs.YtibaendebbicjaaGreat.L
namespace Go.Proofs.YtibaendebbicjaaGreat.L
open Go Go.V Go.RowKit Go.Proofs.YtibaendebbicjaaGreat.Sp
open Go.Proofs (Tryz.prog)
noncomputable section
theorem strEq_self (s:ByteArray):strEq s s=true:=by unfold strEq;exact beq_self_eq_true _
theorem ms_zero:sg0.ms 0=ByteArray.mk #[]:=by
 show magOf 0=_
 unfold magOf
 rw [toB_zero]
theorem ok_nil:sg0.ok (ByteArray.mk #[])=true:=by
 exact decide_eq_true (show (ByteArray.mk #[]).size≤8796093022208 by decide)
theorem law_walk {E:Env} {g:FuncId} {args:List AV} {xs:Array Value} (hC:Meets Tryz.prog E.C) (hL:LoopsOk Tryz.prog E) (hok:okFn Tryz.prog g=true) {u d:Nat} (h:callA Tryz.prog E u d g args=some (.val (.bool true))) (W:World) (ha:RelL Tryz.prog NoA (fun _=>False) W args NoD xs.toList):
  Calls Tryz.prog g xs W fun e w'=>e= .returned (.bool true)∧Below W.heap.size W w':=by
 refine (callA_sound hC hL mixed hok h (fun _=>False) W xs (fun _ h=>h.elim) ha).mono ?_
 rintro e w' ⟨y,rfl,h2,h3⟩
 have h3:y= .bool true:=h3
 exact ⟨by rw [h3],h2⟩
end
end Go.Proofs.YtibaendebbicjaaGreat.L
namespace Go.Proofs.YtibaendebbicjaaGreat.L
open Go Go.V Go.RowKit Go.Proofs.YtibaendebbicjaaGreat.Sp Go.Proofs.YtibaendebbicjaaGreat.F Go.Proofs.YtibaendebbicjaaGreatW.PrintWords
open Go.Proofs (Tryz.prog)
noncomputable section
abbrev p_rtrim:List Bool:= [false,false,true]
def sh_rtrim (s:ByteArray):List AV:=slots 14 [(0, .val (.string s))]
def hp_rtrim (s:ByteArray):Hp:= []
theorem body_rtrim:subC Tryz.prog 70 p_rtrim=some (.loop (lb 70 p_rtrim)):=by kernel_rfl
theorem code_rtrim:subC Tryz.prog 70 (false :: p_rtrim)=some (lb 70 p_rtrim):=by kernel_rfl
theorem round_rtrim (s:ByteArray):roundA Tryz.prog EL0 70 [0] (lb 70 p_rtrim) (false :: p_rtrim) (sh_rtrim s) (hp_rtrim s)=
  (bif decide ((0:Int) < (↑s.size:Int)) then (bif decide ((0:Int) < (↑s.size:Int)) then (bif decide (byteAt s (0:Nat)=(0:Int)) then (bif decide ((1:Int)≤(↑s.size:Int)) then some (.normal,slots 14 [(0,(.val (.string (strSub s (1:Nat) s.size))))], []) else none) else some ((.exit 0),slots 14 [(0,(.val (.string s)))], [])) else none) else some ((.exit 0),slots 14 [(0,(.val (.string s)))], [])):=by kernel_rfl
theorem step_rtrim {s:ByteArray} {e:Ex} {T:List AV} {H:Hp} (h:roundA Tryz.prog EL0 70 [0] (lb 70 p_rtrim) (false :: p_rtrim) (sh_rtrim s) (hp_rtrim s)=some (e,T,H)):V.Ends Tryz.prog false 0 0 (lb 70 p_rtrim) (sh_rtrim s) (hp_rtrim s) e T H:=
 round_ends (meets_none _) loops_none mixed code_rtrim h
def pre_rtrim (s:ByteArray):Prop:=True
def post_rtrim (s:ByteArray) (r:ByteArray):Prop:=r=magOf (vS s)
theorem byteAt_cons {s:ByteArray} {c:UInt8} {l:List UInt8} (h:s.data.toList=c :: l):byteAt s 0=(c.toNat:Int):=by unfold byteAt;rw [h];rfl
theorem strSub_cons {s:ByteArray} {c:UInt8} {l:List UInt8} (h:s.data.toList=c :: l):(strSub s 1 s.size).data.toList=l:=by
 have hs:s.size=l.length+1:=by
  have:s.size=s.data.toList.length:=by rw [Array.length_toList];rfl
  rw [this,h];rfl
 show ((s.data.toList.drop 1).take (s.size - 1))=l
 rw [h,hs]
 simp
theorem size_list (s:ByteArray):s.size=s.data.toList.length:=by rw [Array.length_toList];rfl
theorem rtrim_go:∀ (n:Nat) (s:ByteArray),s.size=n→LoopTo Tryz.prog (lb 70 p_rtrim) (sh_rtrim s) (hp_rtrim s) (.exit 0) (sh_rtrim (magOf (vS s))) (hp_rtrim (magOf (vS s)))
 | 0,s,hn=>by
  have hd:s.data.toList= []:=List.length_eq_zero_iff.1 (by rw [← size_list];exact hn)
  have e:magOf (vS s)=s:=magOf_of_lead s (by rw [hd];exact True.intro)
  rw [e]
  refine .last (step_rtrim ?_) (by intro h;cases h)
  rw [round_rtrim,dF (show ¬ (0:Int) < s.size by omega)]
  rfl
 | n+1,s,hn=>by
  obtain ⟨c,l,hd⟩:∃ c l,s.data.toList=c :: l:=by
   cases h:s.data.toList with
   | nil=>rw [size_list,h] at hn;simp at hn
   | cons c l=>exact ⟨c,l,rfl⟩
  have hr:=round_rtrim s
  have hb:=byteAt_cons hd
  rw [dT (show (0:Int) < s.size by omega),hb] at hr
  by_cases hc:c=0
  ·have hv:vS s=vS (strSub s 1 s.size):=by
    unfold vS
    rw [strSub_cons hd,hd,vB_cons,hc]
    simp
   rw [hv]
   have hlen:(strSub s 1 s.size).size=n:=by
    rw [size_list,strSub_cons hd]
    rw [size_list,hd] at hn
    simpa using hn
   refine .more (step_rtrim ?_) (rtrim_go n _ hlen)
   rw [hr,hc,dT (show (((0:UInt8).toNat:Nat):Int)=0 from rfl),dT (show (1:Int)≤s.size by omega)]
   rfl
  ·have e:magOf (vS s)=s:=magOf_of_lead s (by rw [hd];exact hc)
   rw [e]
   refine .last (step_rtrim ?_) (by intro h;cases h)
   have hc2:¬ ((c.toNat:Nat):Int)=0:=fun h=>hc (UInt8.toNat_inj.1 (by simpa using h))
   rw [hr,dF hc2]
   rfl
theorem loop_rtrim (s:ByteArray) (h:pre_rtrim s):∃ r:ByteArray,LoopTo Tryz.prog (lb 70 p_rtrim) (sh_rtrim s) (hp_rtrim s) (.exit 0) (sh_rtrim r) (hp_rtrim r)∧post_rtrim s r:= ⟨_,rtrim_go s.size s rfl,rfl⟩
def told_rtrim (κ:ByteArray→Bool) (φ:ByteArray→ByteArray) (T:List AV) (H:Hp):Option (Bool×Ex×List AV×Hp):=
 match lget T 0,H with
 | .val (.string s), []=>bif T.length==14 then some (κ s, .exit 0,sh_rtrim ((φ s)),hp_rtrim ((φ s))) else none
 | _,_=>none
abbrev KT_rtrim:Type:=ByteArray→Bool
abbrev FT_rtrim:Type:=ByteArray→ByteArray
def LL_rtrim (κ:KT_rtrim) (φ:FT_rtrim) (L:LTab):LTab:=addLn 0 70 p_rtrim [0] (told_rtrim κ φ) L
def phi_rtrim (s:ByteArray):ByteArray:=Classical.epsilon fun ρ=>LoopTo Tryz.prog (lb 70 p_rtrim) (sh_rtrim s) (hp_rtrim s) (.exit 0) (sh_rtrim (ρ)) (hp_rtrim (ρ))∧post_rtrim s ρ
theorem phi_rtrim_spec (s:ByteArray) (h:pre_rtrim s):LoopTo Tryz.prog (lb 70 p_rtrim) (sh_rtrim s) (hp_rtrim s) (.exit 0) (sh_rtrim ((phi_rtrim s))) (hp_rtrim ((phi_rtrim s)))∧post_rtrim s (phi_rtrim s):=Classical.epsilon_spec (loop_rtrim s h)
def cond_rtrim (s:ByteArray):Bool:= @decide (pre_rtrim s) (Classical.propDecidable _)
theorem cond_rtrim_eq (s:ByteArray) (h:pre_rtrim s):cond_rtrim s=true:= @decide_eq_true _ (Classical.propDecidable _) h
theorem told_rtrim_ok (T:List AV) (H:Hp) (e:Ex) (T1:List AV) (H1:Hp) (h:told_rtrim cond_rtrim phi_rtrim T H=some (true,e,T1,H1)):V.Ends Tryz.prog false 0 0 (.loop (lb 70 p_rtrim)) T H e T1 H1:=by
 unfold told_rtrim at h
 split at h
 ·rename_i s h0
  rw [Bool.cond_eq_ite] at h
  split at h
  ·rename_i hlen
   rw [beq_iff_eq] at hlen
   simp only [Option.some.injEq,Prod.mk.injEq,Bool.and_eq_true,decide_eq_true_eq] at h
   obtain ⟨k1,rfl,rfl,rfl⟩:=h
   have kc:= @of_decide_eq_true _ (Classical.propDecidable _) k1
   refine Ends.pre (phi_rtrim_spec s kc).1.ends (fun α B w D ys hr=>slots_rel hlen (fun p hp y hy=> ?_) hr)
   simp only [List.mem_cons,List.not_mem_nil,or_false] at hp
   subst hp
   ·rw [h0] at hy;exact hy
  ·cases h
 ·cases h
theorem LL_rtrim_ok {L:LTab} (h:LOk Tryz.prog L):LOk Tryz.prog (LL_rtrim cond_rtrim phi_rtrim L):=h.add2n body_rtrim told_rtrim_ok
def ERt (κ:KT_rtrim) (φ:FT_rtrim):Env:= ⟨noC,Kall,LL_rtrim κ φ noL⟩
theorem rtrim_call (κ:KT_rtrim) (φ:FT_rtrim) (s:ByteArray):callA Tryz.prog (ERt κ φ) 10 10 70 [.val (.string s)]=
  (bif κ s then some (.val (.string (φ s))) else none):=by kernel_rfl
theorem eRTrim:Entry Tryz.prog 70 (tStrip sg0):=by
 refine entry_of (E:=ERt cond_rtrim phi_rtrim) (u:=10) (d:=10) (meets_none _) (LL_rtrim_ok LOk.none).ok mixed (by kernel_rfl) (fun args r h=> ?_)
 unfold tStrip at h
 split at h
 ·rename_i s
  cases h
  obtain ⟨_,h2⟩:=phi_rtrim_spec s True.intro
  have h2:phi_rtrim s=magOf (vS s):=h2
  rw [rtrim_call,cond_rtrim_eq _ True.intro,h2]
  rfl
 ·cases h
def ECa (S:Sg):Env:= ⟨addC 70 (tStrip S) noC,Kall,noL⟩
theorem canon_call (S:Sg) (b:Bool) (s:ByteArray):callA Tryz.prog (ECa S) 10 10 41 [.agg [.val (.bool b), .val (.string s)]]=
  (bif decide ((0:Int) < (↑s.size:Int)) then (bif decide ((0:Int) < (↑s.size:Int)) then (bif !decide (byteAt s (0:Nat)=(0:Int)) then some (.agg [(.val (.bool b)),(.val (.string s))]) else (bif b then some (.agg [(.val (.bool (!strEq (S.mg (S.vs s)) (ByteArray.mk #[])))),(.val (.string (S.mg (S.vs s))))]) else some (.agg [(.val (.bool false)),(.val (.string (S.mg (S.vs s))))]))) else none) else (bif b then some (.agg [(.val (.bool (!strEq (S.mg (S.vs s)) (ByteArray.mk #[])))),(.val (.string (S.mg (S.vs s))))]) else some (.agg [(.val (.bool false)),(.val (.string (S.mg (S.vs s))))]))):=by kernel_rfl
def tCanon (S:Sg) (args:List AV):Option (Bool×AV):=match args with | [.agg [.val (.bool b), .val (.string s)]]=>some (true,S.int (S.val b s)) | _=>none
theorem ng_eq (z:Int):sg0.ng z=decide (z < 0):=by
 rw [Bool.eq_iff_iff]
 show (enc z).1=true↔_
 unfold enc
 simp only [decide_eq_true_eq]
theorem agg_val (b:Bool) (s:ByteArray) (hl:Lead s.data.toList) (hb:b=true→s.data.toList≠ []):AV.agg [.val (.bool b), .val (.string s)]=sg0.int (sg0.val b s):=by
 have e1:sg0.ms (sg0.val b s)=s:=by
  show magOf (sg0.val b s).natAbs=s
  rw [← vs_val]
  exact magOf_of_lead s hl
 have e2:sg0.ng (sg0.val b s)=b:=by
  rw [ng_eq]
  have hv:sg0.val b s=if b=true then -(vS s:Int) else (vS s:Int):=rfl
  cases b with
  | true=>
   have hp:0 < vS s:=vB_pos_of_lead hl (hb rfl)
   rw [hv,if_pos rfl,decide_eq_true_eq]
   omega
  | false=>
   rw [hv,if_neg (by decide),decide_eq_false_iff_not]
   omega
 unfold Sg.int
 rw [e1,e2]
theorem eCanon:Entry Tryz.prog 41 (tCanon sg0):=by
 refine entry_of (E:=ECa sg0) (u:=10) (d:=10) ((meets_none _).add eRTrim) loops_none mixed (by kernel_rfl) (fun args r h=> ?_)
 unfold tCanon at h
 split at h
 ·rename_i b s
  cases h
  rw [canon_call]
  have hm:strEq (sg0.mg (sg0.vs s)) (ByteArray.mk #[])=decide (sg0.vs s=0):=magOf_nil (vS s)
  have hend:∀ b:Bool,AV.agg [.val (.bool (bif b then !decide (sg0.vs s=0) else false)), .val (.string (sg0.mg (sg0.vs s)))]=sg0.int (sg0.val b s):=by
   intro b
   have h1:AV.agg [.val (.bool (sg0.ng (sg0.val b s))), .val (.string (sg0.ms (sg0.val b s)))]=sg0.int (sg0.val b s):=rfl
   rw [← h1]
   have e1:sg0.ms (sg0.val b s)=sg0.mg (sg0.vs s):=by show magOf (sg0.val b s).natAbs=_;rw [← vs_val];rfl
   have e2:sg0.ng (sg0.val b s)=(bif b then !decide (sg0.vs s=0) else false):=by
    have hv:sg0.val b s=if b=true then -(sg0.vs s:Int) else (sg0.vs s:Int):=rfl
    rw [ng_eq,hv]
    cases b
    ·rw [if_neg (by decide)]
     exact decide_eq_false (by omega)
    ·rw [if_pos rfl]
     by_cases h:sg0.vs s=0
     ·rw [decide_eq_true h];exact decide_eq_false (by omega)
     ·rw [decide_eq_false h];exact decide_eq_true (by omega)
   rw [e1,e2]
  by_cases h0:(0:Int) < s.size
  ·obtain ⟨c,l,hd⟩:∃ c l,s.data.toList=c :: l:=by
    cases h:s.data.toList with
    | nil=>rw [size_list,h] at h0;simp at h0
    | cons c l=>exact ⟨c,l,rfl⟩
   have hb:=byteAt_cons hd
   rw [dT h0]
   by_cases hc:c=0
   ·rw [hb,hc,dT (show (((0:UInt8).toNat:Nat):Int)=0 from rfl)]
    cases b
    ·exact congrArg some (hend false)
    ·have:=hend true
     rw [← hm] at this
     exact congrArg some this
   ·have hc2:¬ ((c.toNat:Nat):Int)=0:=fun h=>hc (UInt8.toNat_inj.1 (by simpa using h))
    rw [hb,dF hc2]
    exact congrArg some (agg_val b s (by rw [hd];exact hc) (fun _=>by rw [hd];simp))
  ·rw [dF h0]
   cases b
   ·exact congrArg some (hend false)
   ·have:=hend true
    rw [← hm] at this
    exact congrArg some this
 ·cases h
end
end Go.Proofs.YtibaendebbicjaaGreat.L
namespace Go.Proofs.YtibaendebbicjaaGreat.L
open Go Go.V Go.RowKit Go.Proofs.YtibaendebbicjaaGreat.Sp Go.Proofs.YtibaendebbicjaaGreat.F Go.Proofs.YtibaendebbicjaaGreatW.PrintWords
open Go.Proofs (Tryz.prog)
noncomputable section
def zq (x y:Int):Int:=if y=0 then 0 else x.fdiv y
def zr (x y:Int):Int:=if y=0 then 0 else x.fmod y
def ze (y:Int):Int:=if y=0 then 10 else 0
def CDi (S:Sg):FuncId→List AV→Option (Bool×AV):=addC 31 (tLoad S) (addC 61 (tDivide S) (addC 37 (tPack S) (addC 26 (tOf S) (addC 62 (tSub S) (addC 63 (tAdd S) noC)))))
theorem CDi_ok:Meets Tryz.prog (CDi sg0):=((((((meets_none _).add eAdd).add eSub).add eOf).add ePack).add eDivide).add eLoad
theorem div_call (S:Sg) (b c:Bool) (s t:ByteArray):letI q_3:=(S.num (S.len (S.vs s)) (S.row (S.vs s)) / S.num (S.len (S.vs t)) (S.row (S.vs t)));letI q_1:=(S.sg (bif true then !b==c else b==c) (S.num (S.len q_3) (S.row q_3)));letI q_4:=(S.num (S.len (S.vs s)) (S.row (S.vs s)) % S.num (S.len (S.vs t)) (S.row (S.vs t)));letI q_2:=(S.sg b (S.num (S.len q_4) (S.row q_4)));
  (callA Tryz.prog ⟨CDi S,Kall,noL⟩ 10 10 33 [.agg [.val (.bool b), .val (.string s)], .agg [.val (.bool c), .val (.string t)]]=(bif S.ok t then (bif decide ((↑(S.len (S.vs t)):Int)=(0:Int)) then some (.tup [(.agg [(.val (.bool false)),(.val (.string (ByteArray.mk #[])))]),(.agg [(.val (.bool false)),(.val (.string (ByteArray.mk #[])))]),(.val (.int .i64 10))]) else (bif S.ok s then (bif S.can (S.len (S.vs s)) (S.row (S.vs s))&&S.can (S.len (S.vs t)) (S.row (S.vs t))&&S.oks (S.len (S.vs s)) (S.row (S.vs s))&&S.oks (S.len (S.vs t)) (S.row (S.vs t))&&decide ((0:Nat) < S.num (S.len (S.vs t)) (S.row (S.vs t))) then (bif S.okr (S.len q_3) (S.row q_3) then (bif S.okr (S.len q_4) (S.row q_4) then (bif !strEq (S.ms q_2) (ByteArray.mk #[]) then (bif bif true then !b==c else b==c then (bif S.ok (S.ms q_1)&&S.ok (S.ms (1:Int)) then (bif S.ok (S.ms q_2)&&S.ok t then some (.tup [(.agg [(.val (.bool (S.ng (S.val (S.ng q_1) (S.ms q_1) - S.val (S.ng (1:Int)) (S.ms (1:Int)))))),(.val (.string (S.ms (S.val (S.ng q_1) (S.ms q_1) - S.val (S.ng (1:Int)) (S.ms (1:Int))))))]),(.agg [(.val (.bool (S.ng (S.val (S.ng q_2) (S.ms q_2)+S.val c t)))),(.val (.string (S.ms (S.val (S.ng q_2) (S.ms q_2)+S.val c t))))]),(.val (.int .i64 0))]) else none) else none) else some (.tup [(.agg [(.val (.bool (S.ng q_1))),(.val (.string (S.ms q_1)))]),(.agg [(.val (.bool (S.ng q_2))),(.val (.string (S.ms q_2)))]),(.val (.int .i64 0))])) else some (.tup [(.agg [(.val (.bool (S.ng q_1))),(.val (.string (S.ms q_1)))]),(.agg [(.val (.bool (S.ng q_2))),(.val (.string (S.ms q_2)))]),(.val (.int .i64 0))])) else none) else none) else none) else none)) else none)):=by kernel_rfl
abbrev p_gc:List Bool:= [false,false,true,true]
def sh_gc (xs:List Int) (ys:List Int) (rb:Bool) (rs:ByteArray):List AV:=slots 28 [(4, .ptr 0 0),(5, .lst false 58 xs.length (lim xs)),(6, .lst false 58 ys.length (lim ys))]
def hp_gc (xs:List Int) (ys:List Int) (rb:Bool) (rs:ByteArray):Hp:= [.row (.cells [.val (.bool rb), .val (.string rs)]) 38 .live]
theorem body_gc:subC Tryz.prog 69 p_gc=some (.loop (lb 69 p_gc)):=by kernel_rfl
theorem code_gc:subC Tryz.prog 69 (false :: p_gc)=some (lb 69 p_gc):=by kernel_rfl
theorem round_gc (S:Sg) (xs:List Int) (ys:List Int) (rb:Bool) (rs:ByteArray):roundA Tryz.prog ⟨CDi S,Kall,noL⟩ 69 [4,5,6] (lb 69 p_gc) (false :: p_gc) (sh_gc xs ys rb rs) (hp_gc xs ys rb rs)=
  (bif decide ((0:Int) < (↑ys.length:Int)) then (bif S.can xs.length (lim xs)&&S.can ys.length (lim ys)&&S.oks xs.length (lim xs)&&S.oks ys.length (lim ys)&&decide ((0:Nat) < S.num ys.length (lim ys)) then some (.normal,slots 28 [(4,(.ptr 0 0)),(5,(.lst false 58 ys.length (lim ys))),(6,(.lst false 58 (S.len (S.num xs.length (lim xs) % S.num ys.length (lim ys))) (S.row (S.num xs.length (lim xs) % S.num ys.length (lim ys)))))], [(.row (.cells [(.val (.bool rb)),(.val (.string rs))]) 38 .live)]) else none) else some ((.exit 0),slots 28 [(4,(.ptr 0 0)),(5,(.lst false 58 xs.length (lim xs))),(6,(.lst false 58 ys.length (lim ys)))], [(.row (.cells [(.val (.bool rb)),(.val (.string rs))]) 38 .live)])):=by kernel_rfl
theorem step_gc {xs:List Int} {ys:List Int} {rb:Bool} {rs:ByteArray} {e:Ex} {T:List AV} {H:Hp} (h:roundA Tryz.prog ⟨CDi sg0,Kall,noL⟩ 69 [4,5,6] (lb 69 p_gc) (false :: p_gc) (sh_gc xs ys rb rs) (hp_gc xs ys rb rs)=some (e,T,H)):V.Ends Tryz.prog false 0 0 (lb 69 p_gc) (sh_gc xs ys rb rs) (hp_gc xs ys rb rs) e T H:=
 round_ends CDi_ok loops_none mixed code_gc h
def pre_gc (xs ys:List Int) (rb:Bool) (rs:ByteArray):Prop:=∃ a b:Nat,xs=toL a∧ys=toL b∧(toL a).length≤8796093022208∧(toL b).length≤8796093022208
def post_gc (xs ys:List Int) (rb:Bool) (rs:ByteArray) (r:List Int×List Int):Prop:=r.1=toL (Nat.gcd (vL xs) (vL ys))
theorem oks_len {n:Nat} (h:(toL n).length≤8796093022208):sg0.oks (toL n).length (lim (toL n))=true:=by
 show (okB (toL n).length (lim (toL n))&&decide ((toL n).length≤8796093022208))=true
 rw [okB_enc,decide_eq_true h];rfl
theorem len_mono {a b:Nat} (h:a≤b):(toL a).length≤(toL b).length:=len_toL_le (Nat.lt_of_le_of_lt h (lt_of_len_toL (Nat.le_refl _)))
theorem len0 (n:Nat):((toL n).length:Int)=0↔n=0:=by
 constructor
 ·intro h
  exact (toL_nil_iff n).1 (List.length_eq_zero_iff.1 (by omega))
 ·intro h;subst h;rw [toL_zero];rfl
theorem gc_go (rb:Bool) (rs:ByteArray) (n:Nat):∀ a b:Nat,b=n→(toL a).length≤8796093022208→(toL b).length≤8796093022208→∃ r:List Int×List Int,LoopTo Tryz.prog (lb 69 p_gc) (sh_gc (toL a) (toL b) rb rs) (hp_gc (toL a) (toL b) rb rs) (.exit 0) (sh_gc r.1 r.2 rb rs) (hp_gc r.1 r.2 rb rs)∧r.1=toL (Nat.gcd a b):=by
 induction n using Nat.strongRecOn with
 | _ n ih=>
  intro a b hb ha1 hb1
  have hr:=round_gc sg0 (toL a) (toL b) rb rs
  simp only [num_len] at hr
  by_cases h0:b=0
  ·subst h0
   refine ⟨(toL a,toL 0), .last (step_gc ?_) (by intro h;cases h),by rw [Nat.gcd_zero_right]⟩
   rw [hr,dF (show ¬ (0:Int) < ((toL 0).length:Int) by rw [toL_zero];decide)]
   rfl
  ·have hm:a % b < b:=Nat.mod_lt _ (by omega)
   have hl:=len_mono (Nat.le_of_lt hm)
   obtain ⟨r,h1,h2⟩:=ih (a % b) (by omega) b (a % b) rfl hb1 (by omega)
   refine ⟨r, .more (step_gc ?_) h1,by rw [h2,Nat.gcd_comm b,← Nat.gcd_rec,Nat.gcd_comm]⟩
   have hz:=len0 b
   rw [hr,dT (show (0:Int) < ((toL b).length:Int) by omega),can_len (by omega),can_len (by omega),oks_len ha1,oks_len hb1,dT (show 0 < b by omega)]
   rfl
theorem loop_gc (xs ys:List Int) (rb:Bool) (rs:ByteArray) (h:pre_gc xs ys rb rs):∃ r:List Int×List Int,LoopTo Tryz.prog (lb 69 p_gc) (sh_gc xs ys rb rs) (hp_gc xs ys rb rs) (.exit 0) (sh_gc r.1 r.2 rb rs) (hp_gc r.1 r.2 rb rs)∧post_gc xs ys rb rs r:=by
 obtain ⟨a,b,rfl,rfl,h1,h2⟩:=h
 unfold post_gc
 rw [vL_toL,vL_toL]
 exact gc_go rb rs b a b rfl h1 h2
def told_gc (κ:List Int→List Int→Bool→ByteArray→Bool) (φ:List Int→List Int→Bool→ByteArray→List Int×List Int) (T:List AV) (H:Hp):Option (Bool×Ex×List AV×Hp):=
 match lget T 4,lget T 5,lget T 6,H with
 | .ptr 0 0, .lst false 58 m_xs f_xs, .lst false 58 m_ys f_ys, [.row (.cells [.val (.bool rb), .val (.string rs)]) 38 .live]=>bif T.length==28 then some (okB m_xs f_xs&&okB m_ys f_ys&&κ (rowOf m_xs f_xs) (rowOf m_ys f_ys) rb rs, .exit 0,sh_gc ((φ (rowOf m_xs f_xs) (rowOf m_ys f_ys) rb rs).1) ((φ (rowOf m_xs f_xs) (rowOf m_ys f_ys) rb rs).2) rb rs,hp_gc ((φ (rowOf m_xs f_xs) (rowOf m_ys f_ys) rb rs).1) ((φ (rowOf m_xs f_xs) (rowOf m_ys f_ys) rb rs).2) rb rs) else none
 | _,_,_,_=>none
abbrev KT_gc:Type:=List Int→List Int→Bool→ByteArray→Bool
abbrev FT_gc:Type:=List Int→List Int→Bool→ByteArray→List Int×List Int
def LL_gc (κ:KT_gc) (φ:FT_gc) (L:LTab):LTab:=addLn 0 69 p_gc [4,5,6] (told_gc κ φ) L
def phi_gc (xs:List Int) (ys:List Int) (rb:Bool) (rs:ByteArray):List Int×List Int:=Classical.epsilon fun ρ=>LoopTo Tryz.prog (lb 69 p_gc) (sh_gc xs ys rb rs) (hp_gc xs ys rb rs) (.exit 0) (sh_gc (ρ.1) (ρ.2) rb rs) (hp_gc (ρ.1) (ρ.2) rb rs)∧post_gc xs ys rb rs ρ
theorem phi_gc_spec (xs:List Int) (ys:List Int) (rb:Bool) (rs:ByteArray) (h:pre_gc xs ys rb rs):LoopTo Tryz.prog (lb 69 p_gc) (sh_gc xs ys rb rs) (hp_gc xs ys rb rs) (.exit 0) (sh_gc ((phi_gc xs ys rb rs).1) ((phi_gc xs ys rb rs).2) rb rs) (hp_gc ((phi_gc xs ys rb rs).1) ((phi_gc xs ys rb rs).2) rb rs)∧post_gc xs ys rb rs (phi_gc xs ys rb rs):=Classical.epsilon_spec (loop_gc xs ys rb rs h)
def cond_gc (xs:List Int) (ys:List Int) (rb:Bool) (rs:ByteArray):Bool:= @decide (pre_gc xs ys rb rs) (Classical.propDecidable _)
theorem cond_gc_eq (xs:List Int) (ys:List Int) (rb:Bool) (rs:ByteArray) (h:pre_gc xs ys rb rs):cond_gc xs ys rb rs=true:= @decide_eq_true _ (Classical.propDecidable _) h
theorem told_gc_ok (T:List AV) (H:Hp) (e:Ex) (T1:List AV) (H1:Hp) (h:told_gc cond_gc phi_gc T H=some (true,e,T1,H1)):V.Ends Tryz.prog false 0 0 (.loop (lb 69 p_gc)) T H e T1 H1:=by
 unfold told_gc at h
 split at h
 ·rename_i m_xs f_xs m_ys f_ys rb rs h4 h5 h6
  rw [Bool.cond_eq_ite] at h
  split at h
  ·rename_i hlen
   rw [beq_iff_eq] at hlen
   simp only [Option.some.injEq,Prod.mk.injEq,Bool.and_eq_true,decide_eq_true_eq] at h
   obtain ⟨⟨⟨k1,k2⟩,k3⟩,rfl,rfl,rfl⟩:=h
   have kc:= @of_decide_eq_true _ (Classical.propDecidable _) k3
   refine Ends.pre (phi_gc_spec (rowOf m_xs f_xs) (rowOf m_ys f_ys) rb rs kc).1.ends (fun α B w D ys hr=>slots_rel hlen (fun p hp y hy=> ?_) hr)
   simp only [List.mem_cons,List.not_mem_nil,or_false] at hp
   rcases hp with rfl | rfl | rfl
   ·rw [h4] at hy;exact hy
   ·rw [h5] at hy;rw [rowOf_len];exact row_norm cells58 k1 hy
   ·rw [h6] at hy;rw [rowOf_len];exact row_norm cells58 k2 hy
  ·cases h
 ·cases h
theorem LL_gc_ok {L:LTab} (h:LOk Tryz.prog L):LOk Tryz.prog (LL_gc cond_gc phi_gc L):=h.add2n body_gc told_gc_ok
theorem gcd_call (S:Sg) (κ:KT_gc) (φ:FT_gc) (b c:Bool) (s t:ByteArray):callA Tryz.prog ⟨CDi S,Kall,LL_gc κ φ noL⟩ 10 10 69 [.agg [.val (.bool b), .val (.string s)], .agg [.val (.bool c), .val (.string t)]]=
  (bif S.ok s then (bif S.ok t then (bif okB (S.len (S.vs s)) (S.row (S.vs s))&&okB (S.len (S.vs t)) (S.row (S.vs t))&&κ (rowOf (S.len (S.vs s)) (S.row (S.vs s))) (rowOf (S.len (S.vs t)) (S.row (S.vs t))) false (ByteArray.mk #[]) then (bif S.okr (φ (rowOf (S.len (S.vs s)) (S.row (S.vs s))) (rowOf (S.len (S.vs t)) (S.row (S.vs t))) false (ByteArray.mk #[])).fst.length (lim (φ (rowOf (S.len (S.vs s)) (S.row (S.vs s))) (rowOf (S.len (S.vs t)) (S.row (S.vs t))) false (ByteArray.mk #[])).fst) then some (.agg [(.val (.bool (S.ng (S.sg false (S.num (φ (rowOf (S.len (S.vs s)) (S.row (S.vs s))) (rowOf (S.len (S.vs t)) (S.row (S.vs t))) false (ByteArray.mk #[])).fst.length (lim (φ (rowOf (S.len (S.vs s)) (S.row (S.vs s))) (rowOf (S.len (S.vs t)) (S.row (S.vs t))) false (ByteArray.mk #[])).fst)))))),(.val (.string (S.ms (S.sg false (S.num (φ (rowOf (S.len (S.vs s)) (S.row (S.vs s))) (rowOf (S.len (S.vs t)) (S.row (S.vs t))) false (ByteArray.mk #[])).fst.length (lim (φ (rowOf (S.len (S.vs s)) (S.row (S.vs s))) (rowOf (S.len (S.vs t)) (S.row (S.vs t))) false (ByteArray.mk #[])).fst))))))]) else none) else none) else none) else none):=by kernel_rfl
end
end Go.Proofs.YtibaendebbicjaaGreat.L
namespace Go.Proofs.YtibaendebbicjaaGreat.L
open Go Go.V Go.RowKit Go.Proofs.YtibaendebbicjaaGreat.Sp Go.Proofs.YtibaendebbicjaaGreat.F Go.Proofs.YtibaendebbicjaaGreatW.PrintWords
open Go.Proofs (Tryz.prog)
noncomputable section
theorem floor_of {x y q r:Int} (h:r+y*q=x) (h2:(0≤r∧r < y)∨(y < r∧r≤0)):zq x y=q∧zr x y=r:=by
 unfold zq zr
 have hy:y≠0:=by omega
 rw [if_neg hy,if_neg hy]
 rcases h2 with h2 | h2
 ·exact (Int.fdiv_fmod_unique (by omega)).2 ⟨h,h2⟩
 ·exact (Int.fdiv_fmod_unique' (by omega)).2 ⟨h,h2⟩
theorem ms_nil (z:Int):strEq (sg0.ms z) (ByteArray.mk #[])=decide (z=0):=by
 show strEq (magOf z.natAbs) _=_
 rw [magOf_nil]
 exact decide_eq_decide.2 (by omega)
theorem div_fl (b c:Bool) (n m:Nat) (hm:0 < m):zq (sg0.sg b n) (sg0.sg c m)=(if n % m≠0∧b≠c then sg0.sg (!(b==c)) (n / m) - 1 else sg0.sg (!(b==c)) (n / m))∧
  zr (sg0.sg b n) (sg0.sg c m)=(if n % m≠0∧b≠c then sg0.sg b (n % m)+sg0.sg c m else sg0.sg b (n % m)):=by
 have hr:=Nat.mod_lt n hm
 have he:(n:Int)=(m:Int)*((n / m:Nat):Int)+((n % m:Nat):Int):=by
  rw [← Int.natCast_mul,← Int.natCast_add,Nat.div_add_mod]
 generalize n / m=Q at*
 generalize n % m=R at*
 have t1:∀ k:Nat,sg0.sg true k= -(k:Int):=fun k=>rfl
 have t2:∀ k:Nat,sg0.sg false k=(k:Int):=fun k=>rfl
 by_cases h:R≠0∧b≠c
 ·rw [if_pos h,if_pos h]
  have h0:=h.1
  apply floor_of
  ·cases b <;> cases c <;> first | exact absurd rfl h.2 | (simp only [show (!(true==false))=true from rfl,show (!(false==true))=true from rfl,t1,t2,he];grind)
  ·cases b <;> cases c <;> first | exact absurd rfl h.2 | (simp only [t1,t2];omega)
 ·rw [if_neg h,if_neg h]
  apply floor_of
  ·cases b <;> cases c <;> (simp only [show (!(true==false))=true from rfl,show (!(false==true))=true from rfl,show (!(true==true))=false from rfl,show (!(false==false))=false from rfl,t1,t2,he];grind)
  ·have h':R=0∨b=c:=by
    rcases Nat.eq_zero_or_pos R with h1 | h1
    ·exact Or.inl h1
    ·exact Or.inr (Classical.byContradiction fun h2=>h ⟨by omega,h2⟩)
   rcases h' with h' | h'
   ·subst h'
    cases b <;> cases c <;> (simp only [t1,t2];omega)
   ·subst h'
    cases b <;> (simp only [t1,t2];omega)
theorem val_sg (b:Bool) (s:ByteArray):sg0.val b s=sg0.sg b (sg0.vs s):=rfl
theorem eDivX (X:Xg) (hq:X.dq=zq) (hr:X.dr=zr) (he:X.de=ze):Entry Tryz.prog 33 (tDiv sg0 X):=by
 refine entry_of (E:= ⟨CDi sg0,Kall,noL⟩) (u:=10) (d:=10) CDi_ok loops_none mixed (by kernel_rfl) (fun args r h=> ?_)
 unfold tDiv at h
 split at h
 ·rename_i b s c t
  simp only [Option.some.injEq,Prod.mk.injEq,Bool.and_eq_true] at h
  obtain ⟨⟨h1,h2⟩,rfl⟩:=h
  rw [hq,hr,he]
  have hcall:=div_call sg0 b c s t
  simp only [num_row,ms_nil,val_ms] at hcall
  have hl:((sg0.len (sg0.vs t):Nat):Int)=0↔sg0.vs t=0:=len0 _
  have vt:sg0.val c t=sg0.sg c (sg0.vs t):=rfl
  by_cases h0:sg0.vs t=0
  ·have y0:sg0.val c t=0:=by rw [vt,h0];cases c <;> rfl
   rw [h2,dT (hl.2 h0)] at hcall
   rw [hcall,y0]
   unfold zq zr ze
   rw [if_pos rfl,if_pos rfl,if_pos rfl]
   unfold Sg.int
   rw [ms_zero]
   rfl
  ·have k1:=ok_out h1
   have k2:=ok_out h2
   have b1:=bs_div (sg0.vs s) (sg0.vs t)
   have b2:=bs_mod (sg0.vs s) (sg0.vs t)
   have y0:sg0.val c t≠0:=by
    intro e;have:=vs_val c t;rw [e] at this;exact h0 this
   have e10:ze (sg0.val c t)=0:=by unfold ze;rw [if_neg y0]
   obtain ⟨g1,g2⟩:=div_fl b c (sg0.vs s) (sg0.vs t) (by omega)
   rw [h1,h2,dF (fun e=>h0 (hl.1 e)),can_row (by omega),can_row (by omega),oks_row k1,oks_row k2,dT (show 0 < sg0.vs t by omega),okr_row (by omega),okr_row (by omega)] at hcall
   rw [e10,val_sg b s,val_sg c t,g1,g2]
   rw [hcall]
   clear hcall
   have t1:∀ k:Nat,sg0.sg true k= -(k:Int):=fun k=>rfl
   have t2:∀ k:Nat,sg0.sg false k=(k:Int):=fun k=>rfl
   have hz:∀ b:Bool,(sg0.sg b (sg0.vs s % sg0.vs t)=0)↔sg0.vs s % sg0.vs t=0:=by
    intro b
    cases b
    ·rw [t2];omega
    ·rw [t1];omega
   have ab:∀ (b:Bool) (k:Nat),(sg0.sg b k).natAbs=k:=by
    intro b k
    cases b
    ·rw [t2];omega
    ·rw [t1];omega
   by_cases hr0:sg0.vs s % sg0.vs t=0
   ·rw [dT ((hz b).2 hr0),if_neg (fun h=>h.1 hr0),if_neg (fun h=>h.1 hr0)]
    rfl
   ·rw [dF (fun e=>hr0 ((hz b).1 e))]
    have o1:∀ b:Bool,sg0.ok (sg0.ms (sg0.sg b (sg0.vs s / sg0.vs t)))=true:=fun b=>ok_ms (by rw [ab];omega)
    have o2:∀ b:Bool,sg0.ok (sg0.ms (sg0.sg b (sg0.vs s % sg0.vs t)))=true:=fun b=>ok_ms (by rw [ab];omega)
    have o3:sg0.ok (sg0.ms 1)=true:=ok_ms (by rw [show (1:Int).natAbs=1 from rfl];exact Nat.le_trans (bs_le (n:=1) (m:=1) (by decide)) (by decide))
    rw [o1,o2,o3]
    by_cases hbc:b=c
    ·rw [if_neg (fun h=>h.2 hbc),if_neg (fun h=>h.2 hbc)]
     subst hbc
     cases b <;> rfl
    ·rw [if_pos ⟨hr0,hbc⟩,if_pos ⟨hr0,hbc⟩]
     cases b <;> cases c <;> first | exact absurd rfl hbc | rfl
 ·cases h
theorem eGcdX (X:Xg) (hg:X.gcd=fun x y=>(Nat.gcd x.natAbs y.natAbs:Int)):Entry Tryz.prog 69 (tGcd sg0 X):=by
 refine entry_of (E:= ⟨CDi sg0,Kall,LL_gc cond_gc phi_gc noL⟩) (u:=10) (d:=10) CDi_ok (LL_gc_ok LOk.none).ok mixed (by kernel_rfl) (fun args r h=> ?_)
 unfold tGcd at h
 split at h
 ·rename_i b s c t
  simp only [Option.some.injEq,Prod.mk.injEq,Bool.and_eq_true] at h
  obtain ⟨⟨h1,h2⟩,rfl⟩:=h
  rw [hg]
  have hcall:=gcd_call sg0 cond_gc phi_gc b c s t
  have k1:=ok_out h1
  have k2:=ok_out h2
  have l1:=len_bs (sg0.vs s)
  have l2:=len_bs (sg0.vs t)
  have er:∀ n:Nat,rowOf (sg0.len n) (sg0.row n)=toL n:=fun n=>rowOf_enc n
  have eo:∀ n:Nat,okB (sg0.len n) (sg0.row n)=true:=fun n=>okB_enc n
  simp only [er,eo] at hcall
  have hp:pre_gc (toL (sg0.vs s)) (toL (sg0.vs t)) false (ByteArray.mk #[]):= ⟨_,_,rfl,rfl,Nat.le_trans l1 k1,Nat.le_trans l2 k2⟩
  obtain ⟨_,hpost⟩:=phi_gc_spec _ _ _ _ hp
  unfold post_gc at hpost
  rw [vL_toL,vL_toL] at hpost
  have hb:bs (Nat.gcd (sg0.vs s) (sg0.vs t))≤max (bs (sg0.vs s)) (bs (sg0.vs t)):=by
   rcases Nat.eq_zero_or_pos (sg0.vs s) with e | e
   ·rw [e,Nat.gcd_zero_left];exact Nat.le_max_right _ _
   ·exact Nat.le_trans (bs_mono (Nat.gcd_le_left _ e)) (Nat.le_max_left _ _)
  have hl:=len_bs (Nat.gcd (sg0.vs s) (sg0.vs t))
  have hl':(toL (Nat.gcd (sg0.vs s) (sg0.vs t))).length≤17592186044416:=Nat.le_trans hl (by omega)
  rw [h1,h2,cond_gc_eq _ _ _ _ hp,hpost,okr_len hl',num_len] at hcall
  rw [hcall]
  refine congrArg some ?_
  show sg0.int (Nat.gcd (sg0.vs s) (sg0.vs t):Nat)=_
  rw [vs_val b s,vs_val c t]
 ·cases h
def xg0:Xg where
 sv z:=if -9223372036854775808≤z∧z < 9223372036854775808 then z else 0
 sb z:=decide (-9223372036854775808≤z∧z < 9223372036854775808)
 dq:=zq
 dr:=zr
 de:=ze
 gcd x y:=(Nat.gcd x.natAbs y.natAbs:Int)
 rt z:=if z < 0 then 0 else (rootN z.natAbs:Int)
 rx z:=if z < 0 then false else decide (rootN z.natAbs*rootN z.natAbs=z.natAbs)
 re z:=if z < 0 then 2 else 0
 pr x:=ByteArray.mk #[]
 pv s:=0
 pe s:=0
 ok2 s:=decide (s.size≤68719476736)
 okp s:=true
theorem eDiv:Entry Tryz.prog 33 (tDiv sg0 xg0):=eDivX xg0 rfl rfl rfl
theorem eGcd:Entry Tryz.prog 69 (tGcd sg0 xg0):=eGcdX xg0 rfl
theorem zqr {x y:Int} (h:y≠0):zr x y+y*zq x y=x∧(0 < y→0≤zr x y∧zr x y < y)∧(y < 0→y < zr x y∧zr x y≤0):=by
 unfold zr zq
 rw [if_neg h,if_neg h]
 rcases Int.lt_or_gt_of_ne h with h1 | h1
 ·have:=(Int.fdiv_fmod_unique' (a:=x) h1).1 ⟨rfl,rfl⟩
  exact ⟨this.1,fun h=>by omega,fun _=>this.2⟩
 ·have:=(Int.fdiv_fmod_unique (a:=x) h1).1 ⟨rfl,rfl⟩
  exact ⟨this.1,fun _=>this.2,fun h=>by omega⟩
theorem bs_zq (x y:Int):bs (zq x y).natAbs≤bs x.natAbs+1:=by
 by_cases h:y=0
 ·unfold zq;rw [if_pos h];exact Nat.le_trans (bs_le (n:=(0:Int).natAbs) (m:=0) (by decide)) (Nat.zero_le _)
 ·obtain ⟨e,h1,h2⟩:=zqr (x:=x) h
  have key:(zq x y).natAbs≤x.natAbs+1:=by
   generalize zr x y=r at*
   generalize zq x y=q at*
   have hm:(y*q).natAbs=y.natAbs*q.natAbs:=Int.natAbs_mul y q
   rcases Nat.lt_or_ge (x.natAbs+1) q.natAbs with h3 | h3
   ·have h4:y.natAbs*(x.natAbs+2)≤y.natAbs*q.natAbs:=Nat.mul_le_mul_left _ h3
    have h5:1*x.natAbs≤y.natAbs*x.natAbs:=Nat.mul_le_mul_right _ (by omega)
    rw [Nat.mul_add] at h4
    rcases Int.lt_or_gt_of_ne h with h6 | h6
    ·have:=h2 h6;omega
    ·have:=h1 h6;omega
   ·exact h3
  have:=bs_add x.natAbs 1
  have h1:bs 1≤1:=bs_le (by decide)
  have h2:=bs_mono key
  rcases Nat.eq_zero_or_pos x.natAbs with e0 | e0
  ·rw [e0] at key h2 ⊢
   have:bs (0+1)≤1:=h1
   omega
  ·have h3:1≤bs x.natAbs:=by
    rcases Nat.eq_zero_or_pos (bs x.natAbs) with e1 | e1
    ·have:=bs_lt x.natAbs
     rw [e1] at this
     omega
    ·exact e1
   omega
theorem ez0:ze 0=10:=if_pos rfl
theorem ezn {y:Int} (h:y≠0):ze y=0:=if_neg h
end
end Go.Proofs.YtibaendebbicjaaGreat.L
namespace Go.Proofs.YtibaendebbicjaaGreat.L
open Go Go.V Go.RowKit Go.Proofs.YtibaendebbicjaaGreat.Sp Go.Proofs.YtibaendebbicjaaGreat.F
open Go.Proofs (Tryz.prog)
noncomputable section
theorem vnil:sg0.val false (ByteArray.mk #[])=0:=of_eq_true (eq_true rfl)
theorem x_dq:xg0.dq=zq:=of_eq_true (eq_true rfl)
theorem x_de:xg0.de=ze:=of_eq_true (eq_true rfl)
theorem ng_nn {x:Int} (h:0≤x):sg0.ng x=false:=by
 show (enc x).1=false
 unfold enc
 simp only [decide_eq_false_iff_not]
 omega
theorem beq_dec {p q:Prop} [Decidable p] [Decidable q] (h:p↔q):(decide p==decide q)=true:=by
 rw [decide_eq_decide.2 h];exact beq_self_eq_true _
theorem bne_dec {p q:Prop} [Decidable p] [Decidable q] (h:¬ (p↔q)):(decide p==decide q)=false:=by
 by_cases hp:p <;> by_cases hq:q
 ·exact absurd ⟨fun _=>hq,fun _=>hp⟩ h
 ·rw [decide_eq_true hp,decide_eq_false hq];rfl
 ·rw [decide_eq_false hp,decide_eq_true hq];rfl
 ·exact absurd ⟨fun k=>absurd k hp,fun k=>absurd k hq⟩ h
end
end Go.Proofs.YtibaendebbicjaaGreat.L
namespace Go.Proofs.YtibaendebbicjaaGreat.L
open Go Go.V Go.RowKit Go.Proofs.YtibaendebbicjaaGreat.Sp Go.Proofs.YtibaendebbicjaaGreat.F
open Go.Proofs (Tryz.prog)
noncomputable section
def zg (x y:Int):Int:=(Nat.gcd x.natAbs y.natAbs:Nat)
theorem x_gcd:xg0.gcd=zg:=of_eq_true (eq_true rfl)
theorem bs_zg (x y:Int):bs (zg x y).natAbs≤max (bs x.natAbs) (bs y.natAbs):=by
 unfold zg
 rw [Int.natAbs_natCast]
 rcases Nat.eq_zero_or_pos x.natAbs with e | e
 ·rw [e,Nat.gcd_zero_left];exact Nat.le_max_right _ _
 ·exact Nat.le_trans (bs_mono (Nat.gcd_le_left _ e)) (Nat.le_max_left _ _)
end
end Go.Proofs.YtibaendebbicjaaGreat.L
namespace Go.Proofs.YtibaendebbicjaaGreat.L
open Go Go.V Go.RowKit Go.Proofs.YtibaendebbicjaaGreat.Sp Go.Proofs.YtibaendebbicjaaGreat.F Go.Proofs.YtibaendebbicjaaGreatW.PrintWords
open Go.Proofs (Tryz.prog)
noncomputable section
def CSm (S:Sg):FuncId→List AV→Option (Bool×AV):=addC 31 (tLoad S) noC
theorem CSm_ok:Meets Tryz.prog (CSm sg0):=(meets_none _).add eLoad
abbrev p_sm:List Bool:= [false,true,false,true,true,true,true]
def sh_sm (u:Int) (xs:List Int) (n:Int) (i:Int) (b:Bool) (s:ByteArray):List AV:=slots 49 [(1, .ptr 0 0),(5, .val (.int .u64 u)),(14, .lst false 58 xs.length (lim xs)),(15, .val (.int .i64 n)),(16, .val (.int .i64 i))]
def hp_sm (u:Int) (xs:List Int) (n:Int) (i:Int) (b:Bool) (s:ByteArray):Hp:= [.row (.cells [.val (.bool b), .val (.string s)]) 38 .live]
theorem body_sm:subC Tryz.prog 13 p_sm=some (.loop (lb 13 p_sm)):=by kernel_rfl
theorem code_sm:subC Tryz.prog 13 (false :: p_sm)=some (lb 13 p_sm):=by kernel_rfl
theorem round_sm (u:Int) (xs:List Int) (n:Int) (i:Int) (b:Bool) (s:ByteArray):roundA Tryz.prog EL0 13 [1,5,14,15,16] (lb 13 p_sm) (false :: p_sm) (sh_sm u xs n i b s) (hp_sm u xs n i b s)=
  (bif decide (i < n) then (bif decide ((0:Int)≤i)&&decide (i < (↑xs.length:Int)) then (bif inR IntKind.u64 (xs.getD i.toNat (0:Int)) then (bif inR IntKind.i64 ((32:Int)*i) then (bif decide ((32:Int)*i < (0:Int)) then none else (bif inR IntKind.i64 (i+(1:Int)) then some (.normal,slots 49 [(1,(.ptr 0 0)),(5,(.val (.int .u64 (bitI BinOp.or IntKind.u64 u (IntKind.u64.wrap (xs.getD i.toNat (0:Int)*(2:Int) ^ min ((32:Int)*i).toNat (64:Nat))))))),(14,(.lst false 58 xs.length (lim xs))),(15,(.val (.int .i64 n))),(16,(.val (.int .i64 (i+(1:Int)))))], [(.row (.cells [(.val (.bool b)),(.val (.string s))]) 38 .live)]) else none)) else none) else none) else none) else some ((.exit 0),slots 49 [(1,(.ptr 0 0)),(5,(.val (.int .u64 u))),(14,(.lst false 58 xs.length (lim xs))),(15,(.val (.int .i64 n))),(16,(.val (.int .i64 i)))], [(.row (.cells [(.val (.bool b)),(.val (.string s))]) 38 .live)])):=by kernel_rfl
theorem step_sm {u:Int} {xs:List Int} {n:Int} {i:Int} {b:Bool} {s:ByteArray} {e:Ex} {T:List AV} {H:Hp} (h:roundA Tryz.prog EL0 13 [1,5,14,15,16] (lb 13 p_sm) (false :: p_sm) (sh_sm u xs n i b s) (hp_sm u xs n i b s)=some (e,T,H)):V.Ends Tryz.prog false 0 0 (lb 13 p_sm) (sh_sm u xs n i b s) (hp_sm u xs n i b s) e T H:=
 round_ends (meets_none _) loops_none mixed code_sm h
def pre_sm (u:Int) (xs:List Int) (n i:Int) (b:Bool) (s:ByteArray):Prop:=okL xs∧xs.length≤2∧n=xs.length∧u=0∧i=0
def post_sm (u:Int) (xs:List Int) (n i:Int) (b:Bool) (s:ByteArray) (r:Int×Int):Prop:=r.1=(vL xs:Nat)
theorem or_lo (u c:Nat) (hu:u < 4294967296) (hc:c < 4294967296):bitI .or .u64 (u:Int) (IntKind.u64.wrap ((c:Int)*2 ^ min ((32:Int)*1).toNat (64:Nat)))=((u+c*4294967296:Nat):Int):=by
 have e:IntKind.u64.wrap ((c:Int)*2 ^ min ((32:Int)*1).toNat (64:Nat))=((c*4294967296:Nat):Int):=by
  have e1:(c:Int)*2 ^ min ((32:Int)*1).toNat (64:Nat)=((c*4294967296:Nat):Int):=by rw [Int.natCast_mul];rfl
  rw [e1,u64n (by omega)]
 rw [e]
 have e2:=u64_or_nat u (c*4294967296) (by omega) (by omega)
 have e3:bitI .or .u64 (u:Int) ((c*4294967296:Nat):Int)=_:=e2
 rw [e3,Nat.or_comm,nat_join 32 _ _ (by omega) (by omega),Nat.add_comm]
theorem or_lo0 (c:Nat) (hc:c < 4294967296):bitI .or .u64 (0:Int) (IntKind.u64.wrap ((c:Int)*2 ^ min ((32:Int)*0).toNat (64:Nat)))=((c:Nat):Int):=by
 have e:IntKind.u64.wrap ((c:Int)*2 ^ min ((32:Int)*0).toNat (64:Nat))=((c:Nat):Int):=by
  have e1:(c:Int)*2 ^ min ((32:Int)*0).toNat (64:Nat)=((c:Nat):Int):=by show (c:Int)*1=_;omega
  rw [e1,u64n (by omega)]
 rw [e]
 have e2:=u64_or_nat 0 c (by omega) (by omega)
 have e3:bitI .or .u64 (0:Int) ((c:Nat):Int)=_:=e2
 rw [e3,Nat.zero_or]
theorem sm_last (u:Int) (xs:List Int) (i:Int) (b:Bool) (s:ByteArray) (h:i=xs.length):LoopTo Tryz.prog (lb 13 p_sm) (sh_sm u xs xs.length i b s) (hp_sm u xs xs.length i b s) (.exit 0) (sh_sm u xs xs.length i b s) (hp_sm u xs xs.length i b s):=by
 refine .last (step_sm ?_) (by intro h;cases h)
 rw [round_sm,dF (show ¬ i < (xs.length:Int) by omega)]
 rfl
theorem loop_sm (u:Int) (xs:List Int) (n i:Int) (b:Bool) (s:ByteArray) (h:pre_sm u xs n i b s):∃ r:Int×Int,LoopTo Tryz.prog (lb 13 p_sm) (sh_sm u xs n i b s) (hp_sm u xs n i b s) (.exit 0) (sh_sm r.1 xs n r.2 b s) (hp_sm r.1 xs n r.2 b s)∧post_sm u xs n i b s r:=by
 obtain ⟨h1,h2,rfl,rfl,rfl⟩:=h
 unfold post_sm
 match xs,h1,h2 with
 | [],_,_=>exact ⟨(0,0),sm_last 0 [] 0 b s rfl,rfl⟩
 | [a],h1,_=>
  have ha:=(okL_cons.1 h1).1
  obtain ⟨a',rfl⟩:=Int.eq_ofNat_of_zero_le ha.1
  refine ⟨((a':Int),1), .more (step_sm ?_) (sm_last (a':Int) [(a':Int)] 1 b s rfl),by rw [vL_cons,vL_nil];simp⟩
  rw [round_sm]
  rw [dT (show (0:Int) < (([(a':Int)]:List Int).length:Int) by show (0:Int) < 1;decide),show ([(a':Int)]:List Int).getD (0:Int).toNat 0=(a':Int) from rfl,or_lo0 a' (by omega),u64T (by omega)]
  rfl
 | [a,c],h1,_=>
  have ha:=(okL_cons.1 h1).1
  have hc:=(okL_cons.1 (okL_cons.1 h1).2).1
  obtain ⟨a',rfl⟩:=Int.eq_ofNat_of_zero_le ha.1
  obtain ⟨c',rfl⟩:=Int.eq_ofNat_of_zero_le hc.1
  have l1:=step_sm (u:=0) (xs:= [(a':Int),(c':Int)]) (n:=(([(a':Int),(c':Int)]:List Int).length:Int)) (i:=0) (b:=b) (s:=s) (e:= .normal) (T:=sh_sm (a':Int) [(a':Int),(c':Int)] (([(a':Int),(c':Int)]:List Int).length:Int) 1 b s) (H:=hp_sm (a':Int) [(a':Int),(c':Int)] (([(a':Int),(c':Int)]:List Int).length:Int) 1 b s) (by
   rw [round_sm]
   rw [dT (show (0:Int) < (([(a':Int),(c':Int)]:List Int).length:Int) by show (0:Int) < 2;decide),show ([(a':Int),(c':Int)]:List Int).getD (0:Int).toNat 0=(a':Int) from rfl,or_lo0 a' (by omega),u64T (by omega)]
   rfl)
  have l2:=step_sm (u:=(a':Int)) (xs:= [(a':Int),(c':Int)]) (n:=(([(a':Int),(c':Int)]:List Int).length:Int)) (i:=1) (b:=b) (s:=s) (e:= .normal) (T:=sh_sm ((a'+c'*4294967296:Nat):Int) [(a':Int),(c':Int)] (([(a':Int),(c':Int)]:List Int).length:Int) 2 b s) (H:=hp_sm ((a'+c'*4294967296:Nat):Int) [(a':Int),(c':Int)] (([(a':Int),(c':Int)]:List Int).length:Int) 2 b s) (by
   rw [round_sm]
   rw [dT (show (1:Int) < (([(a':Int),(c':Int)]:List Int).length:Int) by show (1:Int) < 2;decide),show ([(a':Int),(c':Int)]:List Int).getD (1:Int).toNat 0=(c':Int) from rfl,or_lo a' c' (by omega) (by omega),u64T (by omega)]
   rfl)
  refine ⟨(((a'+c'*4294967296:Nat):Int),2), .more l1 (.more l2 (sm_last _ [(a':Int),(c':Int)] 2 b s rfl)), ?_⟩
  rw [vL_cons,vL_cons,vL_nil,Int.toNat_natCast,Int.toNat_natCast]
  show ((a'+c'*4294967296:Nat):Int)=_
  omega
 | _ :: _ :: _ :: _,_,h2=>exact absurd h2 (by simp)
def told_sm (κ:Int→List Int→Int→Int→Bool→ByteArray→Bool) (φ:Int→List Int→Int→Int→Bool→ByteArray→Int×Int) (T:List AV) (H:Hp):Option (Bool×Ex×List AV×Hp):=
 match lget T 1,lget T 5,lget T 14,lget T 15,lget T 16,H with
 | .ptr 0 0, .val (.int .u64 u), .lst false 58 m_xs f_xs, .val (.int .i64 n), .val (.int .i64 i), [.row (.cells [.val (.bool b), .val (.string s)]) 38 .live]=>bif T.length==49 then some (okB m_xs f_xs&&κ u (rowOf m_xs f_xs) n i b s, .exit 0,sh_sm ((φ u (rowOf m_xs f_xs) n i b s).1) (rowOf m_xs f_xs) n ((φ u (rowOf m_xs f_xs) n i b s).2) b s,hp_sm ((φ u (rowOf m_xs f_xs) n i b s).1) (rowOf m_xs f_xs) n ((φ u (rowOf m_xs f_xs) n i b s).2) b s) else none
 | _,_,_,_,_,_=>none
abbrev KT_sm:Type:=Int→List Int→Int→Int→Bool→ByteArray→Bool
abbrev FT_sm:Type:=Int→List Int→Int→Int→Bool→ByteArray→Int×Int
def LL_sm (κ:KT_sm) (φ:FT_sm) (L:LTab):LTab:=addLn 0 13 p_sm [1,5,14,15,16] (told_sm κ φ) L
def phi_sm (u:Int) (xs:List Int) (n:Int) (i:Int) (b:Bool) (s:ByteArray):Int×Int:=Classical.epsilon fun ρ=>LoopTo Tryz.prog (lb 13 p_sm) (sh_sm u xs n i b s) (hp_sm u xs n i b s) (.exit 0) (sh_sm (ρ.1) xs n (ρ.2) b s) (hp_sm (ρ.1) xs n (ρ.2) b s)∧post_sm u xs n i b s ρ
theorem phi_sm_spec (u:Int) (xs:List Int) (n:Int) (i:Int) (b:Bool) (s:ByteArray) (h:pre_sm u xs n i b s):LoopTo Tryz.prog (lb 13 p_sm) (sh_sm u xs n i b s) (hp_sm u xs n i b s) (.exit 0) (sh_sm ((phi_sm u xs n i b s).1) xs n ((phi_sm u xs n i b s).2) b s) (hp_sm ((phi_sm u xs n i b s).1) xs n ((phi_sm u xs n i b s).2) b s)∧post_sm u xs n i b s (phi_sm u xs n i b s):=Classical.epsilon_spec (loop_sm u xs n i b s h)
def cond_sm (u:Int) (xs:List Int) (n:Int) (i:Int) (b:Bool) (s:ByteArray):Bool:= @decide (pre_sm u xs n i b s) (Classical.propDecidable _)
theorem cond_sm_eq (u:Int) (xs:List Int) (n:Int) (i:Int) (b:Bool) (s:ByteArray) (h:pre_sm u xs n i b s):cond_sm u xs n i b s=true:= @decide_eq_true _ (Classical.propDecidable _) h
theorem told_sm_ok (T:List AV) (H:Hp) (e:Ex) (T1:List AV) (H1:Hp) (h:told_sm cond_sm phi_sm T H=some (true,e,T1,H1)):V.Ends Tryz.prog false 0 0 (.loop (lb 13 p_sm)) T H e T1 H1:=by
 unfold told_sm at h
 split at h
 ·rename_i u m_xs f_xs n i b s h1 h5 h14 h15 h16
  rw [Bool.cond_eq_ite] at h
  split at h
  ·rename_i hlen
   rw [beq_iff_eq] at hlen
   simp only [Option.some.injEq,Prod.mk.injEq,Bool.and_eq_true,decide_eq_true_eq] at h
   obtain ⟨⟨k1,k2⟩,rfl,rfl,rfl⟩:=h
   have kc:= @of_decide_eq_true _ (Classical.propDecidable _) k2
   refine Ends.pre (phi_sm_spec u (rowOf m_xs f_xs) n i b s kc).1.ends (fun α B w D ys hr=>slots_rel hlen (fun p hp y hy=> ?_) hr)
   simp only [List.mem_cons,List.not_mem_nil,or_false] at hp
   rcases hp with rfl | rfl | rfl | rfl | rfl
   ·rw [h1] at hy;exact hy
   ·rw [h5] at hy;exact hy
   ·rw [h14] at hy;rw [rowOf_len];exact row_norm cells58 k1 hy
   ·rw [h15] at hy;exact hy
   ·rw [h16] at hy;exact hy
  ·cases h
 ·cases h
theorem LL_sm_ok {L:LTab} (h:LOk Tryz.prog L):LOk Tryz.prog (LL_sm cond_sm phi_sm L):=h.add2n body_sm told_sm_ok
theorem small_call (S:Sg) (κ:KT_sm) (φ:FT_sm) (b:Bool) (s:ByteArray):letI q_2:=(φ (0:Int) (rowOf (S.len (S.vs s)) (S.row (S.vs s))) (↑(S.len (S.vs s)):Int) (0:Int) b s);letI q_1:Option AV:=(bif !b then (bif decide (q_2.fst < (9223372036854775808:Int)) then some (.tup [(.val (.int .i64 (IntKind.i64.wrap q_2.fst))),(.val (.bool true))]) else some (.tup [(.val (.int .i64 0)),(.val (.bool false))])) else some (.tup [(.val (.int .i64 0)),(.val (.bool false))]));
  (callA Tryz.prog ⟨CSm S,Kall,LL_sm κ φ noL⟩ 10 10 13 [.agg [.val (.bool b), .val (.string s)]]=(bif S.ok s then (bif decide ((2:Int) < (↑(S.len (S.vs s)):Int)) then some (.tup [(.val (.int .i64 0)),(.val (.bool false))]) else (bif okB (S.len (S.vs s)) (S.row (S.vs s))&&κ (0:Int) (rowOf (S.len (S.vs s)) (S.row (S.vs s))) (↑(S.len (S.vs s)):Int) (0:Int) b s then (bif b then (bif decide (q_2.fst≤(9223372036854775808:Int)) then some (.tup [(.val (.int .i64 (IntKind.i64.wrap (IntKind.u64.wrap ((0:Int) - q_2.fst))))),(.val (.bool true))]) else q_1) else q_1) else none)) else none)):=by kernel_rfl
theorem eSmallX (X:Xg) (g1:X.sv=fun z=>if -9223372036854775808≤z∧z < 9223372036854775808 then z else 0) (g2:X.sb=fun z=>decide (-9223372036854775808≤z∧z < 9223372036854775808)):Entry Tryz.prog 13 (tSmall sg0 X):=by
 refine entry_of (E:= ⟨CSm sg0,Kall,LL_sm cond_sm phi_sm noL⟩) (u:=10) (d:=10) CSm_ok (LL_sm_ok LOk.none).ok mixed (by kernel_rfl) (fun args r h=> ?_)
 unfold tSmall at h
 split at h
 ·rename_i b s
  simp only [Option.some.injEq,Prod.mk.injEq] at h
  obtain ⟨h1,rfl⟩:=h
  have hcall:=small_call sg0 cond_sm phi_sm b s
  rw [h1] at hcall
  have er:rowOf (sg0.len (sg0.vs s)) (sg0.row (sg0.vs s))=toL (sg0.vs s):=rowOf_enc _
  have eo:okB (sg0.len (sg0.vs s)) (sg0.row (sg0.vs s))=true:=okB_enc _
  have hv:sg0.val b s=sg0.sg b (sg0.vs s):=rfl
  have hs:X.sv (sg0.val b s)=if -9223372036854775808≤sg0.val b s∧sg0.val b s < 9223372036854775808 then sg0.val b s else 0:=by rw [g1]
  have hb:X.sb (sg0.val b s)=decide (-9223372036854775808≤sg0.val b s∧sg0.val b s < 9223372036854775808):=by rw [g2]
  have t1:∀ k:Nat,sg0.sg true k= -(k:Int):=fun k=>rfl
  have t2:∀ k:Nat,sg0.sg false k=(k:Int):=fun k=>rfl
  rw [hs,hb,hv]
  rw [er,eo] at hcall
  generalize hN:sg0.vs s=N at*
  by_cases h2:(2:Int) < (sg0.len N:Int)
  ·have hbig:¬ N < 18446744073709551616:=by
    intro hlt
    have h3:(toL N).length≤2:=len_toL_le (show N < 4294967296 ^ 2 from hlt)
    have h4:sg0.len N=(toL N).length:=rfl
    omega
   rw [dT h2] at hcall
   rw [hcall]
   cases b
   ·rw [t2,if_neg (by omega),dF (show ¬ (-9223372036854775808≤(N:Int)∧(N:Int) < 9223372036854775808) by omega)];rfl
   ·rw [t1,if_neg (by omega),dF (show ¬ (-9223372036854775808≤ -(N:Int)∧ -(N:Int) < 9223372036854775808) by omega)];rfl
  ·have h4:sg0.len N=(toL N).length:=rfl
   have hlt:N < 18446744073709551616:=by
    have h3:(toL N).length≤2:=by omega
    exact (lt_of_len_toL h3:N < 4294967296 ^ 2)
   have hp:pre_sm 0 (toL N) (sg0.len N:Int) 0 b s:= ⟨okL_toL N,by omega,rfl,rfl,rfl⟩
   obtain ⟨_,hpost⟩:=phi_sm_spec _ _ _ _ _ _ hp
   unfold post_sm at hpost
   rw [vL_toL] at hpost
   rw [dF h2,cond_sm_eq _ _ _ _ _ _ hp,hpost] at hcall
   rw [hcall]
   cases b
   ·rw [t2]
    by_cases h5:N < 9223372036854775808
    ·rw [if_pos (by omega),dT (show (N:Int) < 9223372036854775808 by omega),dT (show -9223372036854775808≤(N:Int)∧(N:Int) < 9223372036854775808 by omega),show IntKind.i64.wrap (N:Int)=N by rw [IntKind.wrap_i64];omega]
     rfl
    ·rw [if_neg (by omega),dF (show ¬ (N:Int) < 9223372036854775808 by omega),dF (show ¬ (-9223372036854775808≤(N:Int)∧(N:Int) < 9223372036854775808) by omega)]
     rfl
   ·rw [t1]
    by_cases h5:N≤9223372036854775808
    ·rw [if_pos (by omega),dT (show (N:Int)≤9223372036854775808 by omega),dT (show -9223372036854775808≤ -(N:Int)∧ -(N:Int) < 9223372036854775808 by omega),show IntKind.i64.wrap (IntKind.u64.wrap (0 - (N:Int)))= -(N:Int) by rw [IntKind.wrap_i64,IntKind.wrap_u64];omega]
     rfl
    ·rw [if_neg (by omega),dF (show ¬ (N:Int)≤9223372036854775808 by omega),dF (show ¬ (-9223372036854775808≤ -(N:Int)∧ -(N:Int) < 9223372036854775808) by omega)]
     rfl
 ·cases h
end
end Go.Proofs.YtibaendebbicjaaGreat.L
namespace Go.Proofs.YtibaendebbicjaaGreat.L
open Go Go.V Go.RowKit Go.Proofs.YtibaendebbicjaaGreat.Sp
open Go.Proofs (Tryz.prog)
noncomputable section
theorem eSmall:Entry Tryz.prog 13 (tSmall sg0 xg0):=eSmallX xg0 rfl rfl
end
end Go.Proofs.YtibaendebbicjaaGreat.L
