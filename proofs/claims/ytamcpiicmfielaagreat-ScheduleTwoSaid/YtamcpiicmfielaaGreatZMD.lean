import Derived.Test.YtamcpiicmfielaaGreatZL
import Derived.Test.YtamcpiicmfielaaGreatZMA
set_option linter.unusedVariables false
set_option linter.unusedSimpArgs false
namespace Go.Proofs.YtamcpiicmfielaaGreat.L
open Go Go.V Go.RowKit Go.Proofs.YtamcpiicmfielaaGreat.Sp
open Go.Proofs (Tryz.prog)
noncomputable section
structure Xg where
 sv:Int→Int
 sb:Int→Bool
 dq:Int→Int→Int
 dr:Int→Int→Int
 de:Int→Int
 gcd:Int→Int→Int
 rt:Int→Int
 rx:Int→Bool
 re:Int→Int
 pr:Int→ByteArray
 pv:ByteArray→Int
 pe:ByteArray→Int
 cN:ByteArray→Bool
 ly:ByteArray→Bool
def sM (S:Sg) (X:Xg) (args:List AV):Option (Bool×AV):=match args with | [.agg [.val (.bool b), .val (.string s)], .agg [.val (.bool c), .val (.string t)]]=>some (S.ok s&&S.ok t, .tup [S.int (X.dq (S.val b s) (S.val c t)),S.int (X.dr (S.val b s) (S.val c t)), .val (.int .i64 (X.de (S.val c t)))]) | _=>none
def Am (S:Sg) (X:Xg) (args:List AV):Option (Bool×AV):=match args with | [.agg [.val (.bool b), .val (.string s)], .agg [.val (.bool c), .val (.string t)]]=>some (S.ok s&&S.ok t,S.int (X.gcd (S.val b s) (S.val c t))) | _=>none
def GU (S:Sg) (X:Xg) (args:List AV):Option (Bool×AV):=match args with | [.agg [.val (.bool b), .val (.string s)]]=>some (X.cN s, .tup [S.int (X.rt (S.val b s)), .val (.bool (X.rx (S.val b s))), .val (.int .i64 (X.re (S.val b s)))]) | _=>none
end
end Go.Proofs.YtamcpiicmfielaaGreat.L
namespace Go.Proofs.YtamcpiicmfielaaGreat.L
open Go Go.V Go.RowKit Go.Proofs.YtamcpiicmfielaaGreat.Sp
open Go.Proofs (Tryz.prog)
noncomputable section
theorem lG (s:ByteArray):aG s s=true:=by unfold aG;grind
theorem lY:aa.ms 0=ByteArray.mk #[]:=by
 show aA 0=_
 unfold aA
 rw [toB_zero]
theorem y9:aa.ok (ByteArray.mk #[])=true:=by
 exact decide_eq_true (show (ByteArray.mk #[]).size≤8796093022208 by decide)
theorem ZI {E:Env} {g:FuncId} {args:List AV} {I:Array Value} (M:bf Tryz.prog E.C) (O:dh Tryz.prog E) (U:fB Tryz.prog g=true) {u d:Nat} (h:aF Tryz.prog E u d g args=some (.val (.bool true))) (W:World) (ha:aj Tryz.prog cw (fun _=>False) W args bo I.toList):
  Calls Tryz.prog g I W fun e w'=>e= .returned (.bool true)∧Below W.heap.size W w':=by
 refine (rh M O mixed U h (fun _=>False) W I (fun _ h=>h.elim) ha).mono ?_
 rintro e w' ⟨y,rfl,J,G⟩
 have G:y= .bool true:=G
 exact ⟨by rw [G],J.toBelow⟩
end
end Go.Proofs.YtamcpiicmfielaaGreat.L
namespace Go.Proofs.YtamcpiicmfielaaGreat.L
open Go Go.V Go.RowKit Go.Proofs.YtamcpiicmfielaaGreat.Sp Go.Proofs.YtamcpiicmfielaaGreat.F Go.Proofs.YtamcpiicmfielaaGreatW.PrintWords
open Go.Proofs (Tryz.prog)
noncomputable section
abbrev gy:List Bool:= [false,false,true]
def kR (s:ByteArray):List AV:=ar 14 [(0, .val (.string s))]
def jZ (s:ByteArray):Hp:= []
theorem T7:aH Tryz.prog 160 gy=some (.loop (lb 160 gy)):=by kernel_rfl
theorem VH:aH Tryz.prog 160 (false :: gy)=some (lb 160 gy):=by kernel_rfl
theorem Pn (s:ByteArray):aO Tryz.prog br 160 [0] (lb 160 gy) (false :: gy) (kR s) (jZ s)=
  (bif decide ((0:Int) < (↑s.size:Int)) then (bif decide ((0:Int) < (↑s.size:Int)) then (bif decide (aR s 0=(0:Int)) then (bif decide ((1:Int)≤(↑s.size:Int)) then some (.normal,ar 14 [(0,(.val (.string (eT s 1 s.size))))], []) else none) else some ((.exit 0),ar 14 [(0,(.val (.string s)))], [])) else none) else some ((.exit 0),ar 14 [(0,(.val (.string s)))], [])):=by kernel_rfl
theorem Gi {s:ByteArray} {e:Ex} {T:List AV} {H:Hp} (h:aO Tryz.prog br 160 [0] (lb 160 gy) (false :: gy) (kR s) (jZ s)=some (e,T,H)):V.Ends Tryz.prog false 0 0 (lb 160 gy) (kR s) (jZ s) e T H:=
 bF (aJ _) aN mixed VH h
def zJ (s:ByteArray):Prop:=True
def E5 (s r:ByteArray):Prop:=r=aA (vS s)
theorem KM {s:ByteArray} {c:UInt8} {l:List UInt8} (h:s.data.toList=c :: l):aR s 0=(c.toNat:Int):=by unfold aR;rw [h];rfl
theorem QH {s:ByteArray} {c:UInt8} {l:List UInt8} (h:s.data.toList=c :: l):(eT s 1 s.size).data.toList=l:=by
 have G:s.size=l.length+1:=by
  have:s.size=s.data.toList.length:=by rw [Array.length_toList];rfl
  rw [this,h];rfl
 show ((s.data.toList.drop 1).take (s.size - 1))=l
 rw [h,G]
 simp
theorem mw (s:ByteArray):s.size=s.data.toList.length:=by rw [Array.length_toList];rfl
theorem PC:∀ (n:Nat) (s:ByteArray),s.size=n→av Tryz.prog (lb 160 gy) (kR s) (jZ s) (.exit 0) (kR (aA (vS s))) (jZ (aA (vS s)))
 | 0,s,I=>by
  have G:s.data.toList= []:=List.length_eq_zero_iff.1 (by rw [← mw];exact I)
  have e:aA (vS s)=s:=uL s (by rw [G];exact True.intro)
  rw [e]
  refine .last (Gi ?_) (by intro h;cases h)
  rw [Pn,dF (show ¬ (0:Int) < s.size by omega)]
  rfl
 | n+1,s,I=>by
  obtain ⟨c,l,G⟩:∃ c l,s.data.toList=c :: l:=by
   cases h:s.data.toList with
   | nil=>rw [mw,h] at I;simp at I
   | cons c l=>exact ⟨c,l,rfl⟩
  have M:=Pn s
  have hb:=KM G
  rw [dT (show (0:Int) < s.size by omega),hb] at M
  by_cases J:c=0
  ·have Z:vS s=vS (eT s 1 s.size):=by
    unfold vS
    rw [QH G,G,lJ,J]
    simp
   rw [Z]
   have U:(eT s 1 s.size).size=n:=by
    rw [mw,QH G]
    rw [mw,G] at I
    simpa using I
   refine .more (Gi ?_) (PC n _ U)
   rw [M,J,dT (show (((0:UInt8).toNat:Nat):Int)=0 from rfl),dT (show (1:Int)≤s.size by omega)]
   rfl
  ·have e:aA (vS s)=s:=uL s (by rw [G];exact J)
   rw [e]
   refine .last (Gi ?_) (by intro h;cases h)
   have O:¬ ((c.toNat:Nat):Int)=0:=fun h=>J (UInt8.toNat_inj.1 (by simpa using h))
   rw [M,dF O]
   rfl
theorem aa5 (s:ByteArray) (h:zJ s):∃ r:ByteArray,av Tryz.prog (lb 160 gy) (kR s) (jZ s) (.exit 0) (kR r) (jZ r)∧E5 s r:= ⟨_,PC s.size s rfl,rfl⟩
def HN (I:ByteArray→Bool) (G:ByteArray→ByteArray) (T:List AV) (H:Hp):Option (Bool×Ex×List AV×Hp):=
 match al T 0,H with
 | .val (.string s), []=>bif T.length==14 then some (I s, .exit 0,kR ((G s)),jZ ((G s))) else none
 | _,_=>none
abbrev BR:Type:=ByteArray→Bool
abbrev Bv:Type:=ByteArray→ByteArray
def Ke (G:BR) (I:Bv) (L:aC):aC:=bp 0 160 gy [0] (HN G I) L
def qm (s:ByteArray):ByteArray:=Classical.epsilon fun ρ=>av Tryz.prog (lb 160 gy) (kR s) (jZ s) (.exit 0) (kR (ρ)) (jZ (ρ))∧E5 s ρ
theorem OB (s:ByteArray) (h:zJ s):av Tryz.prog (lb 160 gy) (kR s) (jZ s) (.exit 0) (kR ((qm s))) (jZ ((qm s)))∧E5 s (qm s):=Classical.epsilon_spec (aa5 s h)
def yd (s:ByteArray):Bool:= @decide (zJ s) (Classical.propDecidable _)
theorem WD (s:ByteArray) (h:zJ s):yd s=true:= @decide_eq_true _ (Classical.propDecidable _) h
theorem agH (T:List AV) (H:Hp) (e:Ex) (I:List AV) (G:Hp) (h:HN yd qm T H=some (true,e,I,G)):V.Ends Tryz.prog false 0 0 (.loop (lb 160 gy)) T H e I G:=by
 unfold HN at h
 split at h
 ·rename_i s U
  rw [Bool.cond_eq_ite] at h
  split at h
  ·rename_i J
   rw [beq_iff_eq] at J
   simp only [Option.some.injEq,Prod.mk.injEq,Bool.and_eq_true,decide_eq_true_eq] at h
   obtain ⟨k1,rfl,rfl,rfl⟩:=h
   have ab:= @of_decide_eq_true _ (Classical.propDecidable _) k1
   refine Ends.pre (OB s ab).1.ends (fun α B w D aE Z=>bq J (fun p M y O=> ?_) Z)
   simp only [List.mem_cons,List.not_mem_nil,or_false] at M
   subst M
   ·rw [U] at O;exact O
  ·cases h
 ·cases h
theorem SE {L:aC} (h:aB Tryz.prog L):aB Tryz.prog (Ke yd qm L):=h.bz T7 agH
def IM (G:BR) (I:Bv):Env:= ⟨aK,au,Ke G I aq⟩
theorem aek (G:BR) (I:Bv) (s:ByteArray):aF Tryz.prog (IM G I) 10 10 160 [.val (.string s)]=
  (bif G s then some (.val (.string (I s))) else none):=by kernel_rfl
theorem ry:Entry Tryz.prog 160 (oV aa):=by
 refine bg (E:=IM yd qm) (u:=10) (d:=10) (aJ _) (SE aB.none).ok mixed (by kernel_rfl) (fun args r h=> ?_)
 unfold oV at h
 split at h
 ·rename_i s
  cases h
  obtain ⟨_,G⟩:=OB s True.intro
  have G:qm s=aA (vS s):=G
  rw [aek,WD _ True.intro,G]
  rfl
 ·cases h
def IA (S:Sg):Env:= ⟨aw 160 (oV S) aK,au,aq⟩
theorem UD (S:Sg) (b:Bool) (s:ByteArray):aF Tryz.prog (IA S) 10 10 130 [.agg [.val (.bool b), .val (.string s)]]=
  (bif decide ((0:Int) < (↑s.size:Int)) then (bif decide ((0:Int) < (↑s.size:Int)) then (bif !decide (aR s 0=(0:Int)) then some (.agg [(.val (.bool b)),(.val (.string s))]) else (bif b then some (.agg [(.val (.bool (!aG (S.mg (S.vs s)) (ByteArray.mk #[])))),(.val (.string (S.mg (S.vs s))))]) else some (.agg [(.val (.bool false)),(.val (.string (S.mg (S.vs s))))]))) else none) else (bif b then some (.agg [(.val (.bool (!aG (S.mg (S.vs s)) (ByteArray.mk #[])))),(.val (.string (S.mg (S.vs s))))]) else some (.agg [(.val (.bool false)),(.val (.string (S.mg (S.vs s))))]))):=by kernel_rfl
def oS (S:Sg) (args:List AV):Option (Bool×AV):=match args with | [.agg [.val (.bool b), .val (.string s)]]=>some (true,S.int (S.val b s)) | _=>none
theorem dm (z:Int):aa.ng z=decide (z < 0):=by
 rw [Bool.eq_iff_iff]
 show (enc z).1=true↔_
 unfold enc
 simp only [decide_eq_true_eq]
theorem SY (b:Bool) (s:ByteArray) (G:ra s.data.toList) (hb:b=true→s.data.toList≠ []):AV.agg [.val (.bool b), .val (.string s)]=aa.int (aa.val b s):=by
 have e1:aa.ms (aa.val b s)=s:=by
  show aA (aa.val b s).natAbs=s
  rw [← lL]
  exact uL s G
 have J:aa.ng (aa.val b s)=b:=by
  rw [dm]
  have I:aa.val b s=if b=true then -(vS s:Int) else (vS s:Int):=rfl
  cases b with
  | true=>
   have M:0 < vS s:=Q3 G (hb rfl)
   rw [I,if_pos rfl,decide_eq_true_eq]
   omega
  | false=>
   rw [I,if_neg (by decide),decide_eq_false_iff_not]
   omega
 unfold Sg.int
 rw [e1,J]
theorem uj:Entry Tryz.prog 130 (oS aa):=by
 refine bg (E:=IA aa) (u:=10) (d:=10) ((aJ _).add ry) aN mixed (by kernel_rfl) (fun args r h=> ?_)
 unfold oS at h
 split at h
 ·rename_i b s
  cases h
  rw [UD]
  have O:aG (aa.mg (aa.vs s)) (ByteArray.mk #[])=decide (aa.vs s=0):=rP (vS s)
  have I:∀ b:Bool,AV.agg [.val (.bool (bif b then !decide (aa.vs s=0) else false)), .val (.string (aa.mg (aa.vs s)))]=aa.int (aa.val b s):=by
   intro b
   have Z:AV.agg [.val (.bool (aa.ng (aa.val b s))), .val (.string (aa.ms (aa.val b s)))]=aa.int (aa.val b s):=rfl
   rw [← Z]
   have e1:aa.ms (aa.val b s)=aa.mg (aa.vs s):=by show aA (aa.val b s).natAbs=_;rw [← lL];rfl
   have U:aa.ng (aa.val b s)=(bif b then !decide (aa.vs s=0) else false):=by
    have aE:aa.val b s=if b=true then -(aa.vs s:Int) else (aa.vs s:Int):=rfl
    rw [dm,aE]
    cases b
    ·rw [if_neg (by decide)]
     exact decide_eq_false (by omega)
    ·rw [if_pos rfl]
     by_cases h:aa.vs s=0
     ·rw [decide_eq_true h];exact decide_eq_false (by omega)
     ·rw [decide_eq_false h];exact decide_eq_true (by omega)
   rw [e1,U]
  by_cases G:(0:Int) < s.size
  ·obtain ⟨c,l,M⟩:∃ c l,s.data.toList=c :: l:=by
    cases h:s.data.toList with
    | nil=>rw [mw,h] at G;simp at G
    | cons c l=>exact ⟨c,l,rfl⟩
   have hb:=KM M
   rw [dT G]
   by_cases J:c=0
   ·rw [hb,J,dT (show (((0:UInt8).toNat:Nat):Int)=0 from rfl)]
    cases b
    ·exact congrArg some (I false)
    ·have:=I true
     rw [← O] at this
     exact congrArg some this
   ·have ab:¬ ((c.toNat:Nat):Int)=0:=fun h=>J (UInt8.toNat_inj.1 (by simpa using h))
    rw [hb,dF ab]
    exact congrArg some (SY b s (by rw [M];exact J) (fun _=>by rw [M];simp))
  ·rw [dF G]
   cases b
   ·exact congrArg some (I false)
   ·have:=I true
    rw [← O] at this
    exact congrArg some this
 ·cases h
end
end Go.Proofs.YtamcpiicmfielaaGreat.L
namespace Go.Proofs.YtamcpiicmfielaaGreat.L
open Go Go.V Go.RowKit Go.Proofs.YtamcpiicmfielaaGreat.Sp Go.Proofs.YtamcpiicmfielaaGreat.F Go.Proofs.YtamcpiicmfielaaGreatW.PrintWords
open Go.Proofs (Tryz.prog)
noncomputable section
def zq (x y:Int):Int:=if y=0 then 0 else x.fdiv y
def zr (x y:Int):Int:=if y=0 then 0 else x.fmod y
def ze (y:Int):Int:=if y=0 then 10 else 0
def o5 (S:Sg):FuncId→List AV→Option (Bool×AV):=aw 106 (wF S) (aw 152 (Al S) (aw 108 (Ao S) (aw 69 (kW S) (aw 153 (sS S) (aw 75 (kV S) aK)))))
theorem AR:bf Tryz.prog (o5 aa):=((((((aJ _).add yo).add Yr).add yp).add C9).add Lq).add C8
theorem W3 (S:Sg) (b c:Bool) (s t:ByteArray):letI J:=(S.num (S.len (S.vs s)) (S.row (S.vs s)) / S.num (S.len (S.vs t)) (S.row (S.vs t)));letI I:=(S.sg (bif true then !b==c else b==c) (S.num (S.len J) (S.row J)));letI M:=(S.num (S.len (S.vs s)) (S.row (S.vs s)) % S.num (S.len (S.vs t)) (S.row (S.vs t)));letI G:=(S.sg b (S.num (S.len M) (S.row M)));
  (aF Tryz.prog ⟨o5 S,au,aq⟩ 10 10 115 [.agg [.val (.bool b), .val (.string s)], .agg [.val (.bool c), .val (.string t)]]=(bif S.ok t then (bif decide ((↑(S.len (S.vs t)):Int)=(0:Int)) then some (.tup [(.agg [(.val (.bool false)),(.val (.string (ByteArray.mk #[])))]),(.agg [(.val (.bool false)),(.val (.string (ByteArray.mk #[])))]),(.val (.int .i64 10))]) else (bif S.ok s then (bif S.can (S.len (S.vs s)) (S.row (S.vs s))&&S.can (S.len (S.vs t)) (S.row (S.vs t))&&S.aV (S.len (S.vs s)) (S.row (S.vs s))&&S.aV (S.len (S.vs t)) (S.row (S.vs t))&&decide (0 < S.num (S.len (S.vs t)) (S.row (S.vs t))) then (bif S.bU (S.len J) (S.row J) then (bif S.bU (S.len M) (S.row M) then (bif !aG (S.ms G) (ByteArray.mk #[]) then (bif bif true then !b==c else b==c then (bif S.ok (S.ms I)&&S.ok (S.ms (1:Int)) then (bif S.ok (S.ms G)&&S.ok t then some (.tup [(.agg [(.val (.bool (S.ng (S.val (S.ng I) (S.ms I) - S.val (S.ng (1:Int)) (S.ms (1:Int)))))),(.val (.string (S.ms (S.val (S.ng I) (S.ms I) - S.val (S.ng (1:Int)) (S.ms (1:Int))))))]),(.agg [(.val (.bool (S.ng (S.val (S.ng G) (S.ms G)+S.val c t)))),(.val (.string (S.ms (S.val (S.ng G) (S.ms G)+S.val c t))))]),(.val (.int .i64 0))]) else none) else none) else some (.tup [(.agg [(.val (.bool (S.ng I))),(.val (.string (S.ms I)))]),(.agg [(.val (.bool (S.ng G))),(.val (.string (S.ms G)))]),(.val (.int .i64 0))])) else some (.tup [(.agg [(.val (.bool (S.ng I))),(.val (.string (S.ms I)))]),(.agg [(.val (.bool (S.ng G))),(.val (.string (S.ms G)))]),(.val (.int .i64 0))])) else none) else none) else none) else none)) else none)):=by kernel_rfl
abbrev gb:List Bool:= [false,false,true,true]
def kG (G I:List Int) (J:Bool) (M:ByteArray):List AV:=ar 28 [(4, .ptr 0 0),(5, .lst false 129 G.length (lim G)),(6, .lst false 129 I.length (lim I))]
def jO (J M:List Int) (G:Bool) (I:ByteArray):Hp:= [.row (.cells [.val (.bool G), .val (.string I)]) 81 .live]
theorem Tq:aH Tryz.prog 114 gb=some (.loop (lb 114 gb)):=by kernel_rfl
theorem Va:aH Tryz.prog 114 (false :: gb)=some (lb 114 gb):=by kernel_rfl
theorem adZ (S:Sg) (I G:List Int) (J:Bool) (M:ByteArray):aO Tryz.prog ⟨o5 S,au,aq⟩ 114 [4,5,6] (lb 114 gb) (false :: gb) (kG I G J M) (jO I G J M)=
  (bif decide ((0:Int) < (↑G.length:Int)) then (bif S.can I.length (lim I)&&S.can G.length (lim G)&&S.aV I.length (lim I)&&S.aV G.length (lim G)&&decide (0 < S.num G.length (lim G)) then some (.normal,ar 28 [(4,(.ptr 0 0)),(5,(.lst false 129 G.length (lim G))),(6,(.lst false 129 (S.len (S.num I.length (lim I) % S.num G.length (lim G))) (S.row (S.num I.length (lim I) % S.num G.length (lim G)))))], [(.row (.cells [(.val (.bool J)),(.val (.string M))]) 81 .live)]) else none) else some ((.exit 0),ar 28 [(4,(.ptr 0 0)),(5,(.lst false 129 I.length (lim I))),(6,(.lst false 129 G.length (lim G)))], [(.row (.cells [(.val (.bool J)),(.val (.string M))]) 81 .live)])):=by kernel_rfl
theorem P3 {J M:List Int} {G:Bool} {I:ByteArray} {e:Ex} {T:List AV} {H:Hp} (h:aO Tryz.prog ⟨o5 aa,au,aq⟩ 114 [4,5,6] (lb 114 gb) (false :: gb) (kG J M G I) (jO J M G I)=some (e,T,H)):V.Ends Tryz.prog false 0 0 (lb 114 gb) (kG J M G I) (jO J M G I) e T H:=
 bF AR aN mixed Va h
def u9 (G I:List Int) (J:Bool) (M:ByteArray):Prop:=∃ a b:Nat,G=toL a∧I=toL b∧(toL a).length≤8796093022208∧(toL b).length≤8796093022208
def uW (G I:List Int) (J:Bool) (M:ByteArray) (r:List Int×List Int):Prop:=r.1=toL (Nat.gcd (vL G) (vL I))
theorem oH {n:Nat} (h:(toL n).length≤8796093022208):aa.aV (toL n).length (lim (toL n))=true:=by
 show (okB (toL n).length (lim (toL n))&&decide ((toL n).length≤8796093022208))=true
 rw [j8,decide_eq_true h];rfl
theorem DX {a b:Nat} (h:a≤b):(toL a).length≤(toL b).length:=lk (Nat.lt_of_le_of_lt h (lX (Nat.le_refl _)))
theorem yM (n:Nat):((toL n).length:Int)=0↔n=0:=by
 constructor
 ·intro h
  exact (toL_nil_iff n).1 (List.length_eq_zero_iff.1 (by omega))
 ·intro h;subst h;rw [toL_zero];rfl
theorem YW (G:Bool) (I:ByteArray) (n:Nat):∀ a b:Nat,b=n→(toL a).length≤8796093022208→(toL b).length≤8796093022208→∃ r:List Int×List Int,av Tryz.prog (lb 114 gb) (kG (toL a) (toL b) G I) (jO (toL a) (toL b) G I) (.exit 0) (kG r.1 r.2 G I) (jO r.1 r.2 G I)∧r.1=toL (Nat.gcd a b):=by
 induction n using Nat.strongRecOn with
 | _ n a1=>
  intro a b hb ab M
  have J:=adZ aa (toL a) (toL b) G I
  simp only [mY] at J
  by_cases O:b=0
  ·subst O
   refine ⟨(toL a,toL 0), .last (P3 ?_) (by grind),by grind⟩
   rw [J,dF (show ¬ (0:Int) < ((toL 0).length:Int) by rw [toL_zero];decide)]
   rfl
  ·have aE:a % b < b:=Nat.mod_lt _ (by omega)
   have a6:=DX (Nat.le_of_lt aE)
   obtain ⟨r,U,Z⟩:=a1 (a % b) (by omega) b (a % b) rfl M (by omega)
   refine ⟨r, .more (P3 ?_) U,by rw [Z,Nat.gcd_comm b,← Nat.gcd_rec,Nat.gcd_comm]⟩
   have a7:=yM b
   rw [J,dT (show (0:Int) < ((toL b).length:Int) by omega),gO (by omega),gO (by omega),oH ab,oH M,dT (show 0 < b by omega)]
   rfl
theorem aaw (J M:List Int) (G:Bool) (I:ByteArray) (h:u9 J M G I):∃ r:List Int×List Int,av Tryz.prog (lb 114 gb) (kG J M G I) (jO J M G I) (.exit 0) (kG r.1 r.2 G I) (jO r.1 r.2 G I)∧uW J M G I r:=by
 obtain ⟨a,b,rfl,rfl,O,U⟩:=h
 unfold uW
 rw [cY,cY]
 exact YW G I b a b rfl O U
def G8 (ab:List Int→List Int→Bool→ByteArray→Bool) (Z:List Int→List Int→Bool→ByteArray→List Int×List Int) (T:List AV) (H:Hp):Option (Bool×Ex×List AV×Hp):=
 match al T 4,al T 5,al T 6,H with
 | .ptr 0 0, .lst false 129 O J, .lst false 129 U M, [.row (.cells [.val (.bool G), .val (.string I)]) 81 .live]=>bif T.length==28 then some (okB O J&&okB U M&&ab (rowOf O J) (rowOf U M) G I, .exit 0,kG ((Z (rowOf O J) (rowOf U M) G I).1) ((Z (rowOf O J) (rowOf U M) G I).2) G I,jO ((Z (rowOf O J) (rowOf U M) G I).1) ((Z (rowOf O J) (rowOf U M) G I).2) G I) else none
 | _,_,_,_=>none
abbrev Jz:Type:=List Int→List Int→Bool→ByteArray→Bool
abbrev I0:Type:=List Int→List Int→Bool→ByteArray→List Int×List Int
def B7 (G:Jz) (I:I0) (L:aC):aC:=bp 0 114 gb [4,5,6] (G8 G I) L
def nk (J M:List Int) (G:Bool) (I:ByteArray):List Int×List Int:=Classical.epsilon fun ρ=>av Tryz.prog (lb 114 gb) (kG J M G I) (jO J M G I) (.exit 0) (kG (ρ.1) (ρ.2) G I) (jO (ρ.1) (ρ.2) G I)∧uW J M G I ρ
theorem N7 (J M:List Int) (G:Bool) (I:ByteArray) (h:u9 J M G I):av Tryz.prog (lb 114 gb) (kG J M G I) (jO J M G I) (.exit 0) (kG ((nk J M G I).1) ((nk J M G I).2) G I) (jO ((nk J M G I).1) ((nk J M G I).2) G I)∧uW J M G I (nk J M G I):=Classical.epsilon_spec (aaw J M G I h)
def tL (J M:List Int) (G:Bool) (I:ByteArray):Bool:= @decide (u9 J M G I) (Classical.propDecidable _)
theorem V5 (J M:List Int) (G:Bool) (I:ByteArray) (h:u9 J M G I):tL J M G I=true:= @decide_eq_true _ (Classical.propDecidable _) h
theorem af7 (T:List AV) (H:Hp) (e:Ex) (J:List AV) (I:Hp) (h:G8 tL nk T H=some (true,e,J,I)):V.Ends Tryz.prog false 0 0 (.loop (lb 114 gb)) T H e J I:=by
 unfold G8 at h
 split at h
 ·rename_i b0 U b1 Z b2 b3 ab aE a1
  rw [Bool.cond_eq_ite] at h
  split at h
  ·rename_i M
   rw [beq_iff_eq] at M
   simp only [Option.some.injEq,Prod.mk.injEq,Bool.and_eq_true,decide_eq_true_eq] at h
   obtain ⟨⟨⟨k1,a7⟩,bx⟩,rfl,rfl,rfl⟩:=h
   have bD:= @of_decide_eq_true _ (Classical.propDecidable _) bx
   refine Ends.pre (N7 (rowOf b0 U) (rowOf b1 Z) b2 b3 bD).1.ends (fun α B w D b4 a6=>bq M (fun p O y G=> ?_) a6)
   simp only [List.mem_cons,List.not_mem_nil,or_false] at O
   rcases O with rfl | rfl | rfl
   ·rw [ab] at G;exact G
   ·rw [aE] at G;rw [cA];exact cE cy k1 G
   ·rw [a1] at G;rw [cA];exact cE cy a7 G
  ·cases h
 ·cases h
theorem RV {L:aC} (h:aB Tryz.prog L):aB Tryz.prog (B7 tL nk L):=h.bz Tq af7
theorem YX (S:Sg) (I:Jz) (G:I0) (b c:Bool) (s t:ByteArray):aF Tryz.prog ⟨o5 S,au,B7 I G aq⟩ 10 10 114 [.agg [.val (.bool b), .val (.string s)], .agg [.val (.bool c), .val (.string t)]]=
  (bif S.ok s then (bif S.ok t then (bif okB (S.len (S.vs s)) (S.row (S.vs s))&&okB (S.len (S.vs t)) (S.row (S.vs t))&&I (rowOf (S.len (S.vs s)) (S.row (S.vs s))) (rowOf (S.len (S.vs t)) (S.row (S.vs t))) false (ByteArray.mk #[]) then (bif S.bU (G (rowOf (S.len (S.vs s)) (S.row (S.vs s))) (rowOf (S.len (S.vs t)) (S.row (S.vs t))) false (ByteArray.mk #[])).fst.length (lim (G (rowOf (S.len (S.vs s)) (S.row (S.vs s))) (rowOf (S.len (S.vs t)) (S.row (S.vs t))) false (ByteArray.mk #[])).fst) then some (.agg [(.val (.bool (S.ng (S.sg false (S.num (G (rowOf (S.len (S.vs s)) (S.row (S.vs s))) (rowOf (S.len (S.vs t)) (S.row (S.vs t))) false (ByteArray.mk #[])).fst.length (lim (G (rowOf (S.len (S.vs s)) (S.row (S.vs s))) (rowOf (S.len (S.vs t)) (S.row (S.vs t))) false (ByteArray.mk #[])).fst)))))),(.val (.string (S.ms (S.sg false (S.num (G (rowOf (S.len (S.vs s)) (S.row (S.vs s))) (rowOf (S.len (S.vs t)) (S.row (S.vs t))) false (ByteArray.mk #[])).fst.length (lim (G (rowOf (S.len (S.vs s)) (S.row (S.vs s))) (rowOf (S.len (S.vs t)) (S.row (S.vs t))) false (ByteArray.mk #[])).fst))))))]) else none) else none) else none) else none):=by kernel_rfl
end
end Go.Proofs.YtamcpiicmfielaaGreat.L
namespace Go.Proofs.YtamcpiicmfielaaGreat.L
open Go Go.V Go.RowKit Go.Proofs.YtamcpiicmfielaaGreat.Sp Go.Proofs.YtamcpiicmfielaaGreat.F Go.Proofs.YtamcpiicmfielaaGreatW.PrintWords
open Go.Proofs (Tryz.prog)
noncomputable section
theorem ux {x y q r:Int} (h:r+y*q=x) (G:(0≤r∧r < y)∨(y < r∧r≤0)):zq x y=q∧zr x y=r:=by
 unfold zq zr
 have I:y≠0:=by omega
 rw [if_neg I,if_neg I]
 rcases G with G | G
 ·exact (Int.fdiv_fmod_unique (by omega)).2 ⟨h,G⟩
 ·exact (Int.fdiv_fmod_unique' (by omega)).2 ⟨h,G⟩
theorem abx (z:Int):aG (aa.ms z) (ByteArray.mk #[])=decide (z=0):=by
 show aG (aA z.natAbs) _=_
 rw [rP]
 grind
theorem W5 (b c:Bool) (n m:Nat) (M:0 < m):zq (aa.sg b n) (aa.sg c m)=(if n % m≠0∧b≠c then aa.sg (!(b==c)) (n / m) - 1 else aa.sg (!(b==c)) (n / m))∧
  zr (aa.sg b n) (aa.sg c m)=(if n % m≠0∧b≠c then aa.sg b (n % m)+aa.sg c m else aa.sg b (n % m)):=by
 have U:=Nat.mod_lt n M
 have J:(n:Int)=(m:Int)*((n / m:Nat):Int)+((n % m:Nat):Int):=by
  rw [← Int.natCast_mul,← Int.natCast_add,Nat.div_add_mod]
 generalize n / m=Q at*
 generalize n % m=R at*
 have G:∀ k:Nat,aa.sg true k= -(k:Int):=fun k=>rfl
 have I:∀ k:Nat,aa.sg false k=(k:Int):=fun k=>rfl
 by_cases h:R≠0∧b≠c
 ·rw [if_pos h,if_pos h]
  have O:=h.1
  apply ux
  ·cases b <;> cases c <;> first | exact absurd rfl h.2 | (simp only [show (!(true==false))=true from rfl,show (!(false==true))=true from rfl,G,I,J];grind)
  ·cases b <;> cases c <;> first | exact absurd rfl h.2 | (simp only [G,I];omega)
 ·rw [if_neg h,if_neg h]
  apply ux
  ·cases b <;> cases c <;> (simp only [show (!(true==false))=true from rfl,show (!(false==true))=true from rfl,show (!(true==true))=false from rfl,show (!(false==false))=false from rfl,G,I,J];grind)
  ·have h':R=0∨b=c:=by
    grind
   rcases h' with h' | h'
   ·subst h'
    cases b <;> cases c <;> (simp only [G,I];omega)
   ·subst h'
    cases b <;> (simp only [G,I];omega)
theorem Re (b:Bool) (s:ByteArray):aa.val b s=aa.sg b (aa.vs s):=rfl
theorem XD (X:Xg) (bD:X.dq=zq) (b0:X.dr=zr) (bx:X.de=ze):Entry Tryz.prog 115 (sM aa X):=by
 refine bg (E:= ⟨o5 aa,au,aq⟩) (u:=10) (d:=10) AR aN mixed (by kernel_rfl) (fun args r h=> ?_)
 unfold sM at h
 split at h
 ·rename_i b s c t
  simp only [Option.some.injEq,Prod.mk.injEq,Bool.and_eq_true] at h
  obtain ⟨⟨U,O⟩,rfl⟩:=h
  rw [bD,b0,bx]
  have I:=W3 aa b c s t
  simp only [mZ,abx,eX] at I
  have Z:((aa.len (aa.vs t):Nat):Int)=0↔aa.vs t=0:=yM _
  have b5:aa.val c t=aa.sg c (aa.vs t):=rfl
  by_cases M:aa.vs t=0
  ·have aE:aa.val c t=0:=by rw [b5,M];cases c <;> rfl
   rw [O,dT (Z.2 M)] at I
   rw [I,aE]
   unfold zq zr ze
   rw [if_pos rfl,if_pos rfl,if_pos rfl]
   unfold Sg.int
   rw [lY]
   rfl
  ·have k1:=oG U
   have b1:=oG O
   have b7:=Uj (aa.vs s) (aa.vs t)
   have ch:=Ul (aa.vs s) (aa.vs t)
   have aE:aa.val c t≠0:=by
    intro e;have:=lL c t;grind
   have a1:ze (aa.val c t)=0:=by unfold ze;grind
   obtain ⟨a6,a7⟩:=W5 b c (aa.vs s) (aa.vs t) (by omega)
   rw [U,O,dF (fun e=>M (Z.1 e)),xJ (by omega),xJ (by omega),rZ k1,rZ b1,dT (show 0 < aa.vs t by omega),rX (by omega),rX (by omega)] at I
   rw [a1,Re b s,Re c t,a6,a7]
   rw [I]
   clear I
   have ct:∀ k:Nat,aa.sg true k= -(k:Int):=fun k=>rfl
   have c0:∀ k:Nat,aa.sg false k=(k:Int):=fun k=>rfl
   have ab:∀ b:Bool,(aa.sg b (aa.vs s % aa.vs t)=0)↔aa.vs s % aa.vs t=0:=by
    intro b
    cases b
    ·grind
    grind
   have b6:∀ (b:Bool) (k:Nat),(aa.sg b k).natAbs=k:=by
    simp_all
   by_cases J:aa.vs s % aa.vs t=0
   ·rw [dT ((ab b).2 J),if_neg (fun h=>h.1 J),if_neg (fun h=>h.1 J)]
    rfl
   ·rw [dF (fun e=>J ((ab b).1 e))]
    have b2:∀ b:Bool,aa.ok (aa.ms (aa.sg b (aa.vs s / aa.vs t)))=true:=fun b=>bW (by grind)
    have b3:∀ b:Bool,aa.ok (aa.ms (aa.sg b (aa.vs s % aa.vs t)))=true:=fun b=>bW (by grind)
    have b4:aa.ok (aa.ms 1)=true:=bW (by rw [show (1:Int).natAbs=1 from rfl];exact Nat.le_trans (iC (n:=1) (m:=1) (by decide)) (by decide))
    rw [b2,b3,b4]
    by_cases G:b=c
    ·rw [if_neg (fun h=>h.2 G),if_neg (fun h=>h.2 G)]
     subst G
     cases b <;> rfl
    ·rw [if_pos ⟨J,G⟩,if_pos ⟨J,G⟩]
     cases b <;> cases c <;> first | exact absurd rfl G | rfl
 ·cases h
theorem XI (X:Xg) (Z:X.gcd=fun x y=>(Nat.gcd x.natAbs y.natAbs:Int)):Entry Tryz.prog 114 (Am aa X):=by
 refine bg (E:= ⟨o5 aa,au,B7 tL nk aq⟩) (u:=10) (d:=10) AR (RV aB.none).ok mixed (by kernel_rfl) (fun args r h=> ?_)
 unfold Am at h
 split at h
 ·rename_i b s c t
  simp only [Option.some.injEq,Prod.mk.injEq,Bool.and_eq_true] at h
  obtain ⟨⟨J,M⟩,rfl⟩:=h
  rw [Z]
  have G:=YX aa tL nk b c s t
  have k1:=oG J
  have a1:=oG M
  have l1:=pT (aa.vs s)
  have l2:=pT (aa.vs t)
  have er:∀ n:Nat,rowOf (aa.len n) (aa.row n)=toL n:=fun n=>mq n
  have U:∀ n:Nat,okB (aa.len n) (aa.row n)=true:=fun n=>j8 n
  simp only [er,U] at G
  have O:u9 (toL (aa.vs s)) (toL (aa.vs t)) false (ByteArray.mk #[]):= ⟨_,_,rfl,rfl,Nat.le_trans l1 k1,Nat.le_trans l2 a1⟩
  obtain ⟨_,I⟩:=N7 _ _ _ _ O
  unfold uW at I
  rw [cY,cY] at I
  have hb:bs (Nat.gcd (aa.vs s) (aa.vs t))≤max (bs (aa.vs s)) (bs (aa.vs t)):=by
   rcases Nat.eq_zero_or_pos (aa.vs s) with e | e
   ·grind
   ·exact Nat.le_trans (dI (Nat.gcd_le_left _ e)) (Nat.le_max_left _ _)
  have ab:=pT (Nat.gcd (aa.vs s) (aa.vs t))
  have aE:(toL (Nat.gcd (aa.vs s) (aa.vs t))).length≤17592186044416:=Nat.le_trans ab (by omega)
  rw [J,M,V5 _ _ _ _ O,I,uU aE,mY] at G
  rw [G]
  refine congrArg some ?_
  show aa.int (Nat.gcd (aa.vs s) (aa.vs t):Nat)=_
  rw [lL b s,lL c t]
 ·cases h
def bd:Xg where
 sv z:=if -9223372036854775808≤z∧z < 9223372036854775808 then z else 0
 sb z:=decide (-9223372036854775808≤z∧z < 9223372036854775808)
 dq:=zq
 dr:=zr
 de:=ze
 gcd x y:=(Nat.gcd x.natAbs y.natAbs:Int)
 rt z:=if z < 0 then 0 else (bP z.natAbs:Int)
 rx z:=if z < 0 then false else decide (bP z.natAbs*bP z.natAbs=z.natAbs)
 re z:=if z < 0 then 2 else 0
 pr x:=ByteArray.mk #[]
 pv s:=0
 pe s:=0
 cN s:=decide (s.size≤68719476736)
 ly s:=true
theorem Lp:Entry Tryz.prog 115 (sM aa bd):=XD bd rfl rfl rfl
theorem XH:Entry Tryz.prog 114 (Am aa bd):=XI bd rfl
theorem zqr {x y:Int} (h:y≠0):zr x y+y*zq x y=x∧(0 < y→0≤zr x y∧zr x y < y)∧(y < 0→y < zr x y∧zr x y≤0):=by
 unfold zr zq
 rw [if_neg h,if_neg h]
 rcases Int.lt_or_gt_of_ne h with G | G
 ·have:=(Int.fdiv_fmod_unique' (a:=x) G).1 ⟨rfl,rfl⟩
  grind
 ·have:=(Int.fdiv_fmod_unique (a:=x) G).1 ⟨rfl,rfl⟩
  grind
theorem Uo (x y:Int):bs (zq x y).natAbs≤bs x.natAbs+1:=by
 by_cases h:y=0
 ·unfold zq;rw [if_pos h];exact Nat.le_trans (iC (n:=(0:Int).natAbs) (m:=0) (by decide)) (Nat.zero_le _)
 ·obtain ⟨e,I,J⟩:=zqr (x:=x) h
  have M:(zq x y).natAbs≤x.natAbs+1:=by
   generalize zr x y=r at*
   generalize zq x y=q at*
   have Z:(y*q).natAbs=y.natAbs*q.natAbs:=Int.natAbs_mul y q
   rcases Nat.lt_or_ge (x.natAbs+1) q.natAbs with G | G
   ·have O:y.natAbs*(x.natAbs+2)≤y.natAbs*q.natAbs:=Nat.mul_le_mul_left _ G
    have U:1*x.natAbs≤y.natAbs*x.natAbs:=Nat.mul_le_mul_right _ (by omega)
    grind
   ·exact G
  have:=tA x.natAbs 1
  have I:bs 1≤1:=iC (by decide)
  have J:=dI M
  rcases Nat.eq_zero_or_pos x.natAbs with e0 | e0
  ·grind
  ·have G:1≤bs x.natAbs:=by
    rcases Nat.eq_zero_or_pos (bs x.natAbs) with e1 | e1
    ·have:=nX x.natAbs
     grind
    ·exact e1
   omega
theorem LS:ze 0=10:=if_pos rfl
theorem LU {y:Int} (h:y≠0):ze y=0:=if_neg h
end
end Go.Proofs.YtamcpiicmfielaaGreat.L
namespace Go.Proofs.YtamcpiicmfielaaGreat.L
open Go Go.V Go.RowKit Go.Proofs.YtamcpiicmfielaaGreat.Sp Go.Proofs.YtamcpiicmfielaaGreat.F
open Go.Proofs (Tryz.prog)
noncomputable section
theorem AN:aa.val false (ByteArray.mk #[])=0:=of_eq_true (eq_true rfl)
theorem Ie:bd.dq=zq:=of_eq_true (eq_true rfl)
theorem Ri:bd.de=ze:=of_eq_true (eq_true rfl)
theorem abJ {x:Int} (h:0≤x):aa.ng x=false:=by
 show (enc x).1=false
 unfold enc
 grind
theorem CD {p q:Prop} [Decidable p] [Decidable q] (h:p↔q):(decide p==decide q)=true:=by
 grind
theorem xz {p q:Prop} [Decidable p] [Decidable q] (h:¬ (p↔q)):(decide p==decide q)=false:=by
 grind
end
end Go.Proofs.YtamcpiicmfielaaGreat.L
namespace Go.Proofs.YtamcpiicmfielaaGreat.L
open Go Go.V Go.RowKit Go.Proofs.YtamcpiicmfielaaGreat.Sp Go.Proofs.YtamcpiicmfielaaGreat.F
open Go.Proofs (Tryz.prog)
noncomputable section
def zg (x y:Int):Int:=(Nat.gcd x.natAbs y.natAbs:Nat)
theorem Rj:bd.gcd=zg:=of_eq_true (eq_true rfl)
theorem CI (x y:Int):bs (zg x y).natAbs≤max (bs x.natAbs) (bs y.natAbs):=by
 unfold zg
 rw [Int.natAbs_natCast]
 rcases Nat.eq_zero_or_pos x.natAbs with e | e
 ·grind
 ·exact Nat.le_trans (dI (Nat.gcd_le_left _ e)) (Nat.le_max_left _ _)
end
end Go.Proofs.YtamcpiicmfielaaGreat.L
namespace Go.Proofs.YtamcpiicmfielaaGreat.L
open Go Go.V Go.RowKit Go.Proofs.YtamcpiicmfielaaGreat.Sp Go.Proofs.YtamcpiicmfielaaGreat.F Go.Proofs.YtamcpiicmfielaaGreatW.PrintWords
open Go.Proofs (Tryz.prog)
noncomputable section
def nP (S:Sg):FuncId→List AV→Option (Bool×AV):=aw 106 (wF S) (aw 152 (Al S) (aw 118 (Ap S) (aw 158 (AF S) (aw 107 (wD S) (aw 109 (AD S) (aw 157 (GX S) (aw 108 (Ao S) aK)))))))
theorem A6:bf Tryz.prog (nP aa):=((((((((aJ _).add C9).add Yq).add LJ).add C7).add LL).add Lv).add Lq).add C8
abbrev oJ:List Bool:= [false,false,true,true,true,true,true,true]
def nH (G I:List Int) (J:Bool) (M:ByteArray):List AV:=ar 56 [(2, .ptr 0 0),(5, .lst false 129 G.length (lim G)),(7, .lst false 129 I.length (lim I))]
def mT (J M:List Int) (G:Bool) (I:ByteArray):Hp:= [.row (.cells [.val (.bool G), .val (.string I)]) 81 .live]
theorem VG:aH Tryz.prog 123 (false :: oJ)=some (lb 123 oJ):=by kernel_rfl
theorem ad7 (S:Sg) (I G:List Int) (U:Bool) (Z:ByteArray):letI O:=(S.num I.length (lim I) / S.num G.length (lim G));letI M:=(S.num G.length (lim G)+S.num (S.len O) (S.row O));letI J:=(S.num (S.len M) (S.row M) / 2);
  (aO Tryz.prog ⟨nP S,au,aq⟩ 123 [2,5,7] (lb 123 oJ) (false :: oJ) (nH I G U Z) (mT I G U Z)=(bif S.can I.length (lim I)&&S.can G.length (lim G)&&S.aV I.length (lim I)&&S.aV G.length (lim G)&&decide (0 < S.num G.length (lim G)) then (bif S.aV G.length (lim G)&&S.aV (S.len O) (S.row O) then (bif S.bU (S.len M) (S.row M)&&true&&true then (bif S.can (S.len J) (S.row J)&&S.can G.length (lim G) then (bif decide ((0:Int)≤S.cmp (S.num (S.len J) (S.row J)) (S.num G.length (lim G))) then some ((.exit 0),ar 56 [(2,(.ptr 0 0)),(5,(.lst false 129 I.length (lim I))),(7,(.lst false 129 G.length (lim G)))], [(.row (.cells [(.val (.bool U)),(.val (.string Z))]) 81 .live)]) else some (.normal,ar 56 [(2,(.ptr 0 0)),(5,(.lst false 129 I.length (lim I))),(7,(.lst false 129 (S.len J) (S.row J)))], [(.row (.cells [(.val (.bool U)),(.val (.string Z))]) 81 .live)])) else none) else none) else none) else none)):=by kernel_rfl
theorem Qm {J M:List Int} {G:Bool} {I:ByteArray} {e:Ex} {T:List AV} {H:Hp} (h:aO Tryz.prog ⟨nP aa,au,aq⟩ 123 [2,5,7] (lb 123 oJ) (false :: oJ) (nH J M G I) (mT J M G I)=some (e,T,H)):V.Ends Tryz.prog false 0 0 (lb 123 oJ) (nH J M G I) (mT J M G I) e T H:=
 bF A6 aN mixed VG h
abbrev ik:List Bool:= [false,false,true,true,true,true,true,true]
def sD (G I:List Int) (J:Bool) (M:ByteArray):List AV:=ar 56 [(2, .ptr 0 0),(5, .lst false 129 G.length (lim G)),(7, .sl false 129 1 0 I.length)]
def rJ (M J:List Int) (G:Bool) (I:ByteArray):Hp:= [.row (.cells [.val (.bool G), .val (.string I)]) 81 .live, .row (.ints .u32 J) 129 .live]
theorem T6:aH Tryz.prog 123 ik=some (.loop (lb 123 ik)):=by kernel_rfl
theorem VF:aH Tryz.prog 123 (false :: ik)=some (lb 123 ik):=by kernel_rfl
theorem ad6 (S:Sg) (I G:List Int) (U:Bool) (Z:ByteArray):letI O:=(S.num I.length (lim I) / S.num G.length (lim G));letI M:=(S.num G.length (lim G)+S.num (S.len O) (S.row O));letI J:=(S.num (S.len M) (S.row M) / 2);
  (aO Tryz.prog ⟨nP S,au,aq⟩ 123 [2,5,7] (lb 123 ik) (false :: ik) (sD I G U Z) (rJ I G U Z)=(bif decide (0+G.length*1≤G.length) then (bif S.can I.length (lim I)&&S.can G.length (lim G)&&S.aV I.length (lim I)&&S.aV G.length (lim G)&&decide (0 < S.num G.length (lim G)) then (bif decide (0+G.length*1≤G.length) then (bif S.aV G.length (lim G)&&S.aV (S.len O) (S.row O) then (bif S.bU (S.len M) (S.row M)&&true&&true then (bif decide (0+G.length*1≤G.length) then (bif S.can (S.len J) (S.row J)&&S.can G.length (lim G) then (bif decide ((0:Int)≤S.cmp (S.num (S.len J) (S.row J)) (S.num G.length (lim G))) then some ((.exit 0),ar 56 [(2,(.ptr 0 0)),(5,(.lst false 129 I.length (lim I))),(7,(.sl false 129 1 0 G.length))], [(.row (.cells [(.val (.bool U)),(.val (.string Z))]) 81 .live),(.row (.ints .u32 G) 129 .froz)]) else some (.normal,ar 56 [(2,(.ptr 0 0)),(5,(.lst false 129 I.length (lim I))),(7,(.lst false 129 (S.len J) (S.row J)))], [(.row (.cells [(.val (.bool U)),(.val (.string Z))]) 81 .live)])) else none) else none) else none) else none) else none) else none) else none)):=by kernel_rfl
theorem afl {J M:List Int} {G:Bool} {I:ByteArray} {e:Ex} {T:List AV} {H:Hp} (h:aO Tryz.prog ⟨nP aa,au,aq⟩ 123 [2,5,7] (lb 123 ik) (false :: ik) (sD J M G I) (rJ J M G I)=some (e,T,H)):V.Ends Tryz.prog false 0 0 (lb 123 ik) (sD J M G I) (rJ J M G I) e T H:=
 bF A6 aN mixed VF h
theorem CX (y x:Nat):0≤aa.cmp y x↔x≤y:=by
 show 0≤cz y x↔_
 unfold cz
 grind
theorem NO {n:Nat} (h:(toL n).length≤8796093022208):aa.aV (aa.len n) (aa.row n)=true:=oH h
theorem NM {n:Nat} (h:(toL n).length≤17592186044416):aa.bU (aa.len n) (aa.row n)=true:=uU h
theorem xI {n:Nat} (h:(toL n).length≤17592186044416):aa.can (aa.len n) (aa.row n)=true:=gO h
theorem PB {a x:Nat} (ha:(toL a).length≤1099511627776) (I:(toL x).length≤1099511627776):(toL (a / x)).length≤1099511627776∧(toL (x+a / x)).length≤2199023255554∧(toL ((x+a / x) / 2)).length≤2199023255554:=by
 have J:(toL (a / x)).length≤(toL a).length:=yO (Nat.div_le_self a x)
 have G:(toL (x+a / x)).length≤2199023255554:=Nat.le_trans (Z9 I (show (toL (a / x)).length≤1099511627776 by omega)) (by omega)
 exact ⟨by omega,G,Nat.le_trans (yO (Nat.div_le_self _ 2)) G⟩
theorem aej (G:Bool) (I:ByteArray) (a:Nat) (bD:0 < a) (ha:(toL a).length≤1099511627776) (n:Nat):∀ x:Nat,x=n→0 < x→(toL x).length≤1099511627776→a < (x+1)*(x+1)→
  av Tryz.prog (lb 123 oJ) (nH (toL a) (toL x) G I) (mT (toL a) (toL x) G I) (.exit 0) (nH (toL a) (toL (bP a)) G I) (mT (toL a) (toL (bP a)) G I):=by
 induction n using Nat.strongRecOn with
 | _ n bx=>
  intro x b0 O U ab
  obtain ⟨b1,b2,b3⟩:=PB ha U
  have J:=ad7 aa (toL a) (toL x) G I
  simp only [mY,mZ] at J
  rw [gO (n:=a) (by omega),gO (n:=x) (by omega),oH (n:=a) (by omega),oH (n:=x) (by omega),dT (show 0 < x from O),NO (n:=a / x) (by omega),NM (n:=x+a / x) (by omega),xI (n:=(x+a / x) / 2) (by omega)] at J
  by_cases M:x≤(x+a / x) / 2
  ·have a1:=abI O M
   have Z:=Ft a
   have a6:x=bP a:=adY a1 ab Z.1 Z.2
   rw [← a6]
   refine .last (Qm ?_) (by grind)
   rw [J,dT ((CX _ _).2 M)]
   rfl
  ·have a7:0 < (x+a / x) / 2:=by
    grind
   have aE:=bx ((x+a / x) / 2) (by omega) _ rfl a7 (Nat.le_trans (yO (show (x+a / x) / 2≤x by omega)) U) (Nt O)
   refine .more (Qm ?_) aE
   rw [J,dF (fun h=>M ((CX _ _).1 h))]
   rfl
def vP (G I:List Int) (J:Bool) (M:ByteArray):Prop:=∃ a x:Nat,G=toL a∧I=toL x∧0 < a∧(toL a).length≤1099511627776∧(toL x).length≤1099511627776∧a < x*x
def uX (G M:List Int) (I:Bool) (J:ByteArray) (r:List Int):Prop:=r=toL (bP (vL G))
theorem aa4 (J M:List Int) (G:Bool) (I:ByteArray) (h:vP J M G I):∃ r:List Int,av Tryz.prog (lb 123 ik) (sD J M G I) (rJ J M G I) (.exit 0) (nH J r G I) (mT J r G I)∧uX J M G I r:=by
 obtain ⟨a,x,rfl,rfl,ab,ha,U,aE⟩:=h
 unfold uX
 rw [cY]
 have Z:0 < x:=by
  grind
 have a7:a / x < x:=Nat.div_lt_of_lt_mul aE
 obtain ⟨bx,bD,b0⟩:=PB ha U
 have a6:0 < (x+a / x) / 2:=by
  grind
 have a1:=aej G I a ab ha _ ((x+a / x) / 2) rfl a6 (Nat.le_trans (yO (show (x+a / x) / 2≤x by omega)) U) (Nt Z)
 refine ⟨toL (bP a), .more (afl ?_) a1,rfl⟩
 have O:=ad6 aa (toL a) (toL x) G I
 simp only [mY,mZ] at O
 rw [dT (show 0+(toL x).length*1≤(toL x).length by omega),gO (n:=a) (by omega),gO (n:=x) (by omega),oH (n:=a) (by omega),oH (n:=x) (by omega),dT (show 0 < x from Z),NO (n:=a / x) (by omega),NM (n:=x+a / x) (by omega),xI (n:=(x+a / x) / 2) (by omega),dF (fun h=>absurd ((CX _ _).1 h) (by omega))] at O
 rw [O]
 rfl
def HM (ab:List Int→List Int→Bool→ByteArray→Bool) (U:List Int→List Int→Bool→ByteArray→List Int) (T:List AV) (H:Hp):Option (Bool×Ex×List AV×Hp):=
 match al T 2,al T 5,al T 7,H with
 | .ptr 0 0, .lst false 129 I G, .sl false 129 1 0 Z, [.row (.cells [.val (.bool J), .val (.string M)]) 81 .live, .row (.ints .u32 O) 129 .live]=>bif T.length==56 then some (okB I G&&decide (Z=O.length)&&ab (rowOf I G) O J M, .exit 0,nH (rowOf I G) ((U (rowOf I G) O J M)) J M,mT (rowOf I G) ((U (rowOf I G) O J M)) J M) else none
 | _,_,_,_=>none
abbrev JT:Type:=List Int→List Int→Bool→ByteArray→Bool
abbrev Jl:Type:=List Int→List Int→Bool→ByteArray→List Int
def xf (G:JT) (I:Jl) (L:aC):aC:=bp 0 123 ik [2,5,7] (HM G I) L
def mj (J M:List Int) (G:Bool) (I:ByteArray):List Int:=Classical.epsilon fun ρ=>av Tryz.prog (lb 123 ik) (sD J M G I) (rJ J M G I) (.exit 0) (nH J (ρ) G I) (mT J (ρ) G I)∧uX J M G I ρ
theorem OA (J M:List Int) (G:Bool) (I:ByteArray) (h:vP J M G I):av Tryz.prog (lb 123 ik) (sD J M G I) (rJ J M G I) (.exit 0) (nH J ((mj J M G I)) G I) (mT J ((mj J M G I)) G I)∧uX J M G I (mj J M G I):=Classical.epsilon_spec (aa4 J M G I h)
def oa (J M:List Int) (G:Bool) (I:ByteArray):Bool:= @decide (vP J M G I) (Classical.propDecidable _)
theorem WC (J M:List Int) (G:Bool) (I:ByteArray) (h:vP J M G I):oa J M G I=true:= @decide_eq_true _ (Classical.propDecidable _) h
theorem agG (T:List AV) (H:Hp) (e:Ex) (J:List AV) (I:Hp) (h:HM oa mj T H=some (true,e,J,I)):V.Ends Tryz.prog false 0 0 (.loop (lb 123 ik)) T H e J I:=by
 unfold HM at h
 split at h
 ·rename_i b0 Z b3 b1 b2 U ab aE a1
  rw [Bool.cond_eq_ite] at h
  split at h
  ·rename_i M
   rw [beq_iff_eq] at M
   simp only [Option.some.injEq,Prod.mk.injEq,Bool.and_eq_true,decide_eq_true_eq] at h
   obtain ⟨⟨⟨k1,a7⟩,bx⟩,rfl,rfl,rfl⟩:=h
   have bD:= @of_decide_eq_true _ (Classical.propDecidable _) bx
   refine Ends.pre (OA (rowOf b0 Z) U b1 b2 bD).1.ends (fun α B w D U a6=>bq M (fun p O y G=> ?_) a6)
   simp only [List.mem_cons,List.not_mem_nil,or_false] at O
   rcases O with rfl | rfl | rfl
   ·rw [ab] at G;exact G
   ·rw [aE] at G;rw [cA];exact cE cy k1 G
   ·rw [a1] at G;rw [← a7];exact G
  ·cases h
 ·cases h
theorem SD {L:aC} (h:aB Tryz.prog L):aB Tryz.prog (xf oa mj L):=h.bz T6 agG
theorem Fu (S:Sg) (U:JT) (Z:Jl) (b:Bool) (s:ByteArray):letI J:=(rowOf (S.len (S.vs s)) (S.row (S.vs s)));letI I:=(((↑(S.bl (S.num (S.len (S.vs s)) (S.row (S.vs s)))):Int)+(1:Int)).tdiv (2:Int));letI O:=(List.take ((I.tdiv (32:Int)).toNat*1) (List.replicate (I.tdiv (32:Int)).toNat (0:Int)) ++ [IntKind.u32.wrap ((1:Int)*(2:Int) ^ min (I.tmod (32:Int)).toNat 32)]);letI G:=(Z J O false (ByteArray.mk #[]));letI M:=(S.num G.length (lim G)*S.num G.length (lim G));
  (aF Tryz.prog ⟨nP S,au,xf U Z aq⟩ 10 10 123 [.agg [.val (.bool b), .val (.string s)]]=(bif S.ok s then (bif decide ((↑(S.len (S.vs s)):Int)=(0:Int)) then some (.tup [(.agg [(.val (.bool false)),(.val (.string (ByteArray.mk #[])))]),(.val (.bool true)),(.val (.int .i64 0))]) else (bif b then some (.tup [(.agg [(.val (.bool false)),(.val (.string (ByteArray.mk #[])))]),(.val (.bool false)),(.val (.int .i64 2))]) else (bif S.can (S.len (S.vs s)) (S.row (S.vs s)) then (bif ai IntKind.i64 ((↑(S.bl (S.num (S.len (S.vs s)) (S.row (S.vs s)))):Int)+(1:Int)) then (bif ai IntKind.i64 I then (bif ai IntKind.i64 (I.tdiv (32:Int)) then (bif decide (I.tdiv (32:Int)≤I.tdiv (32:Int))&&decide ((4:Int)*I.tdiv (32:Int)≤(281474976710656:Int))&&decide (I.tdiv (32:Int)≤(9223372036854775807:Int)) then (bif decide ((I.tdiv (32:Int)).toNat*1≤(List.replicate (I.tdiv (32:Int)).toNat (0:Int)).length)&&aU Tryz.prog ((I.tdiv (32:Int)).toNat+1) 129&&true then (bif okB (S.len (S.vs s)) (S.row (S.vs s))&&decide ((I.tdiv (32:Int)).toNat+1=O.length)&&U J O false (ByteArray.mk #[]) then (bif S.bU G.length (lim G) then (bif S.aV G.length (lim G)&&S.aV G.length (lim G) then (bif S.can (S.len M) (S.row M)&&S.can J.length (lim J) then some (.tup [(.agg [(.val (.bool (S.ng (S.sg false (S.num G.length (lim G)))))),(.val (.string (S.ms (S.sg false (S.num G.length (lim G))))))]),(.val (.bool (decide (S.cmp (S.num (S.len M) (S.row M)) (S.num J.length (lim J))=(0:Int))))),(.val (.int .i64 0))]) else none) else none) else none) else none) else none) else none) else none) else none) else none) else none))) else none)):=by kernel_rfl
end
end Go.Proofs.YtamcpiicmfielaaGreat.L
namespace Go.Proofs.YtamcpiicmfielaaGreat.L
open Go Go.V Go.RowKit Go.Proofs.YtamcpiicmfielaaGreat.Sp Go.Proofs.YtamcpiicmfielaaGreat.F Go.Proofs.YtamcpiicmfielaaGreatW.PrintWords
open Go.Proofs (Tryz.prog)
noncomputable section
theorem Rm {z:Int} (h:¬ z < 0):bd.rt z=(bP z.natAbs:Int):=if_neg h
theorem Rn {z:Int} (h:¬ z < 0):bd.rx z=decide (bP z.natAbs*bP z.natAbs=z.natAbs):=if_neg h
theorem Rl {z:Int} (h:¬ z < 0):bd.re z=0:=if_neg h
theorem ahw {z:Int} (h:z < 0):bd.rt z=0:=if_pos h
theorem ahx {z:Int} (h:z < 0):bd.rx z=false:=if_pos h
theorem ahv {z:Int} (h:z < 0):bd.re z=2:=if_pos h
theorem acd (m:Nat):256 ^ m=2 ^ (8*m):=by rw [Nat.pow_mul]
theorem adX (a:Nat):bP a≤a:=by
 have h:=(Ft a).1
 rcases Nat.eq_zero_or_pos (bP a) with G | G
 ·omega
 ·exact Nat.le_trans (Nat.le_mul_of_pos_left _ G) h
theorem UY (y x:Nat):aa.cmp y x=0↔y=x:=by
 show cz y x=0↔_
 unfold cz
 grind
theorem adW (s:ByteArray) (b3:s.size≤68719476736) (a6:aa.vs s≠0):aF Tryz.prog ⟨nP aa,au,xf oa mj aq⟩ 10 10 123 [.agg [.val (.bool false), .val (.string s)]]=some (.tup [aa.int (bP (aa.vs s):Nat), .val (.bool (decide (bP (aa.vs s)*bP (aa.vs s)=aa.vs s))), .val (.int .i64 0)]):=by
 have G:=Fu aa oa mj false s
 have hb:=pt s
 have O:=pT (aa.vs s)
 have Z:aa.vs s < 2 ^ (8*s.size):=by rw [← acd];exact lK s
 have b6:=CG _ _ Z
 have bD:aa.vs s < 2 ^ aa.bl (aa.vs s):=(lP (aa.vs s)).1
 have er:rowOf (aa.len (aa.vs s)) (aa.row (aa.vs s))=toL (aa.vs s):=mq _
 have J:okB (aa.len (aa.vs s)) (aa.row (aa.vs s))=true:=j8 _
 have U:((aa.len (aa.vs s):Nat):Int)=0↔aa.vs s=0:=yM _
 have b0:(toL (aa.vs s)).length≤1099511627776:=Nat.le_trans O (by omega)
 rw [show aa.ok s=true from decide_eq_true (by omega),dF (fun e=>a6 (U.1 e))] at G
 simp only [mZ] at G
 have M:aa.can (aa.len (aa.vs s)) (aa.row (aa.vs s))=true:=xI (by omega)
 rw [M,er,J] at G
 clear er J U hb O Z M
 generalize aa.vs s=a at*
 generalize aa.bl a=l at*
 have e1:((l:Int)+1).tdiv 2=(((l+1) / 2:Nat):Int):=rfl
 rw [e1] at G
 have b4:l≤2*((l+1) / 2):=by omega
 have b5:(l+1) / 2≤274877906945:=by omega
 generalize (l+1) / 2=K at*
 have aE:(K:Int).tdiv 32=((K / 32:Nat):Int):=rfl
 have a1:(K:Int).tmod 32=((K % 32:Nat):Int):=rfl
 rw [aE,a1,Int.toNat_natCast,Int.toNat_natCast] at G
 have a7:List.take (K / 32*1) (List.replicate (K / 32) (0:Int)) ++ [IntKind.u32.wrap (1*2 ^ min (K % 32) 32)]=toL (2 ^ K):=by
  rw [Nat.mul_one,List.take_of_length_le (by grind)]
  exact aeU K (by omega)
 have bx:(toL (2 ^ K)).length=K / 32+1:=by
  grind
 rw [a7,bx] at G
 have b1:a < 2 ^ K*2 ^ K:=by
  rw [← Nat.pow_add]
  exact Nat.lt_of_lt_of_le bD (Nat.pow_le_pow_right (by decide) (by omega))
 have ab:vP (toL a) (toL (2 ^ K)) false (ByteArray.mk #[]):= ⟨a,2 ^ K,rfl,rfl,by omega,b0,by grind,b1⟩
 obtain ⟨_,I⟩:=OA _ _ _ _ ab
 unfold uX at I
 rw [cY] at I
 have b2:=Ft a
 have b7:=DX (adX a)
 have ch:=DX b2.1
 rw [WC _ _ _ _ ab,I,aM (show -9223372036854775808≤(l:Int)+1∧(l:Int)+1≤9223372036854775807 by omega),aM (show -9223372036854775808≤(K:Int)∧(K:Int)≤9223372036854775807 by omega),aM (show -9223372036854775808≤((K / 32:Nat):Int)∧((K / 32:Nat):Int)≤9223372036854775807 by omega),
  dT (show ((K / 32:Nat):Int)≤((K / 32:Nat):Int) by omega),dT (show (4:Int)*((K / 32:Nat):Int)≤281474976710656 by omega),dT (show ((K / 32:Nat):Int)≤9223372036854775807 by omega),dT (show K / 32*1≤(List.replicate (K / 32) (0:Int)).length by grind),zT _ (by omega),dT (show K / 32+1=K / 32+1 from rfl),uU (n:=bP a) (by omega),oH (n:=bP a) (by omega)] at G
 simp only [mY,mZ] at G
 rw [xI (n:=bP a*bP a) (by omega),gO (n:=a) (by omega)] at G
 rw [G]
 refine congrArg some ?_
 show AV.tup [aa.int (bP a:Nat), .val (.bool (decide (aa.cmp (bP a*bP a) a=0))), .val (.int .i64 0)]=_
 rw [decide_eq_decide.2 (UY (bP a*bP a) a)]
theorem Yn:Entry Tryz.prog 123 (GU aa bd):=by
 refine bg (E:= ⟨nP aa,au,xf oa mj aq⟩) (u:=10) (d:=10) A6 (SD aB.none).ok mixed (by kernel_rfl) (fun args r h=> ?_)
 unfold GU at h
 split at h
 ·rename_i b s
  simp only [Option.some.injEq,Prod.mk.injEq] at h
  obtain ⟨J,rfl⟩:=h
  have J:s.size≤68719476736:=of_decide_eq_true J
  have M:((aa.len (aa.vs s):Nat):Int)=0↔aa.vs s=0:=yM _
  have O:aa.ok s=true:=decide_eq_true (by omega)
  have Z:∀ k:Nat,aa.sg true k= -(k:Int):=fun k=>rfl
  have ab:∀ k:Nat,aa.sg false k=(k:Int):=fun k=>rfl
  have U:aa.val b s=aa.sg b (aa.vs s):=rfl
  rw [U]
  by_cases I:aa.vs s=0
  ·have G:=Fu aa oa mj b s
   rw [O,dT (M.2 I)] at G
   rw [G,I]
   have z0:aa.sg b 0=0:=by cases b <;> rfl
   rw [z0,Rm (by decide),Rn (by decide),Rl (by decide)]
   unfold Sg.int
   rw [show ((bP (0:Int).natAbs:Nat):Int)=0 from rfl,lY]
   rfl
  ·cases b
   ·rw [adW s J I,ab,Rm (by omega),Rn (by omega),Rl (by omega),Int.natAbs_natCast]
   ·have G:=Fu aa oa mj true s
    rw [O,dF (fun e=>I (M.1 e))] at G
    rw [G,Z,ahw (by omega),ahx (by omega),ahv (by omega)]
    unfold Sg.int
    rw [lY]
    rfl
 ·cases h
end
end Go.Proofs.YtamcpiicmfielaaGreat.L
