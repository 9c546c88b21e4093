import Derived.Test.YtamcpiicmfielaaGreatZL
import Derived.Test.YtamcpiicmfielaaGreatZMA
set_option linter.unusedVariables false
set_option linter.unusedSimpArgs false
namespace Go.Proofs.YtamcpiicmfielaaGreat.L
open Go Go.V Go.RowKit Go.Proofs.YtamcpiicmfielaaGreat.Sp
open Go.Proofs (Tryz.prog)
noncomputable section
structure Xg where
 sv:Int→Int
 sb:Int→Bool
 dq:Int→Int→Int
 dr:Int→Int→Int
 de:Int→Int
 gcd:Int→Int→Int
 rt:Int→Int
 rx:Int→Bool
 re:Int→Int
 pr:Int→ByteArray
 pv:ByteArray→Int
 pe:ByteArray→Int
 cL:ByteArray→Bool
 mD:ByteArray→Bool
def r6 (S:Sg) (X:Xg) (args:List AV):Option (Bool×AV):=match args with | [.agg [.val (.bool b), .val (.string s)], .agg [.val (.bool c), .val (.string t)]]=>some (S.ok s&&S.ok t, .tup [S.int (X.dq (S.val b s) (S.val c t)),S.int (X.dr (S.val b s) (S.val c t)), .val (.int .i64 (X.de (S.val c t)))]) | _=>none
def zo (S:Sg) (X:Xg) (args:List AV):Option (Bool×AV):=match args with | [.agg [.val (.bool b), .val (.string s)], .agg [.val (.bool c), .val (.string t)]]=>some (S.ok s&&S.ok t,S.int (X.gcd (S.val b s) (S.val c t))) | _=>none
def FD (S:Sg) (X:Xg) (args:List AV):Option (Bool×AV):=match args with | [.agg [.val (.bool b), .val (.string s)]]=>some (X.cL s, .tup [S.int (X.rt (S.val b s)), .val (.bool (X.rx (S.val b s))), .val (.int .i64 (X.re (S.val b s)))]) | _=>none
end
end Go.Proofs.YtamcpiicmfielaaGreat.L
namespace Go.Proofs.YtamcpiicmfielaaGreat.L
open Go Go.V Go.RowKit Go.Proofs.YtamcpiicmfielaaGreat.Sp
open Go.Proofs (Tryz.prog)
noncomputable section
theorem kA (s:ByteArray):aF s s=true:=by unfold aF;exact beq_self_eq_true _
theorem lA:aa.ms 0=ByteArray.mk #[]:=by
 show av 0=_
 unfold av
 rw [toB_zero]
theorem yt:aa.ok (ByteArray.mk #[])=true:=by
 exact decide_eq_true (show (ByteArray.mk #[]).size≤8796093022208 by decide)
theorem Xn {E:Env} {g:FuncId} {args:List AV} {I:Array Value} (M:bf Tryz.prog E.C) (O:dg Tryz.prog E) (U:fQ Tryz.prog g=true) {u d:Nat} (h:aG Tryz.prog E u d g args=some (.val (.bool true))) (W:World) (ha:aj Tryz.prog cp (fun _=>False) W args bc I.toList):
  Calls Tryz.prog g I W fun e w'=>e= .returned (.bool true)∧Below W.heap.size W w':=by
 refine (qy M O mixed U h (fun _=>False) W I (fun _ h=>h.elim) ha).mono ?_
 rintro e w' ⟨y,rfl,J,G⟩
 have G:y= .bool true:=G
 exact ⟨by rw [G],J.toBelow⟩
end
end Go.Proofs.YtamcpiicmfielaaGreat.L
namespace Go.Proofs.YtamcpiicmfielaaGreat.L
open Go Go.V Go.RowKit Go.Proofs.YtamcpiicmfielaaGreat.Sp Go.Proofs.YtamcpiicmfielaaGreat.F Go.Proofs.YtamcpiicmfielaaGreatW.PrintWords
open Go.Proofs (Tryz.prog)
noncomputable section
abbrev gl:List Bool:= [false,false,true]
def kq (s:ByteArray):List AV:=ao 14 [(0, .val (.string s))]
def jF (s:ByteArray):Hp:= []
theorem RR:aI Tryz.prog 160 gl=some (.loop (lb 160 gl)):=by kernel_rfl
theorem TD:aI Tryz.prog 160 (false :: gl)=some (lb 160 gl):=by kernel_rfl
theorem NC (s:ByteArray):aP Tryz.prog bg 160 [0] (lb 160 gl) (false :: gl) (kq s) (jF s)=
  (bif decide ((0:Int) < (↑s.size:Int)) then (bif decide ((0:Int) < (↑s.size:Int)) then (bif decide (aT s 0=(0:Int)) then (bif decide ((1:Int)≤(↑s.size:Int)) then some (.normal,ao 14 [(0,(.val (.string (dP s 1 s.size))))], []) else none) else some ((.exit 0),ao 14 [(0,(.val (.string s)))], [])) else none) else some ((.exit 0),ao 14 [(0,(.val (.string s)))], [])):=by kernel_rfl
theorem E4 {s:ByteArray} {e:Ex} {T:List AV} {H:Hp} (h:aP Tryz.prog bg 160 [0] (lb 160 gl) (false :: gl) (kq s) (jF s)=some (e,T,H)):V.Ends Tryz.prog false 0 0 (lb 160 gl) (kq s) (jF s) e T H:=
 bK (aK _) aO mixed TD h
def yL (s:ByteArray):Prop:=True
def DL (s r:ByteArray):Prop:=r=av (vS s)
theorem Jc {s:ByteArray} {c:UInt8} {l:List UInt8} (h:s.data.toList=c :: l):aT s 0=(c.toNat:Int):=by unfold aT;rw [h];rfl
theorem OS {s:ByteArray} {c:UInt8} {l:List UInt8} (h:s.data.toList=c :: l):(dP s 1 s.size).data.toList=l:=by
 have G:s.size=l.length+1:=by
  have:s.size=s.data.toList.length:=by rw [Array.length_toList];rfl
  rw [this,h];rfl
 show ((s.data.toList.drop 1).take (s.size - 1))=l
 rw [h,G]
 simp
theorem lR (s:ByteArray):s.size=s.data.toList.length:=by rw [Array.length_toList];rfl
theorem NR:∀ (n:Nat) (s:ByteArray),s.size=n→aA Tryz.prog (lb 160 gl) (kq s) (jF s) (.exit 0) (kq (av (vS s))) (jF (av (vS s)))
 | 0,s,I=>by
  have G:s.data.toList= []:=List.length_eq_zero_iff.1 (by rw [← lR];exact I)
  have e:av (vS s)=s:=tX s (by rw [G];exact True.intro)
  rw [e]
  refine .last (E4 ?_) (by intro h;cases h)
  rw [NC,dF (show ¬ (0:Int) < s.size by omega)]
  rfl
 | n+1,s,I=>by
  obtain ⟨c,l,G⟩:∃ c l,s.data.toList=c :: l:=by
   cases h:s.data.toList with
   | nil=>rw [lR,h] at I;simp at I
   | cons c l=>exact ⟨c,l,rfl⟩
  have M:=NC s
  have hb:=Jc G
  rw [dT (show (0:Int) < s.size by omega),hb] at M
  by_cases J:c=0
  ·have Z:vS s=vS (dP s 1 s.size):=by
    unfold vS
    rw [OS G,G,kZ,J]
    simp
   rw [Z]
   have U:(dP s 1 s.size).size=n:=by
    rw [lR,OS G]
    rw [lR,G] at I
    simpa using I
   refine .more (E4 ?_) (NR n _ U)
   rw [M,J,dT (show (((0:UInt8).toNat:Nat):Int)=0 from rfl),dT (show (1:Int)≤s.size by omega)]
   rfl
  ·have e:av (vS s)=s:=tX s (by rw [G];exact J)
   rw [e]
   refine .last (E4 ?_) (by intro h;cases h)
   have O:¬ ((c.toNat:Nat):Int)=0:=fun h=>J (UInt8.toNat_inj.1 (by simpa using h))
   rw [M,dF O]
   rfl
theorem YH (s:ByteArray) (h:yL s):∃ r:ByteArray,aA Tryz.prog (lb 160 gl) (kq s) (jF s) (.exit 0) (kq r) (jF r)∧DL s r:= ⟨_,NR s.size s rfl,rfl⟩
def Gp (I:ByteArray→Bool) (G:ByteArray→ByteArray) (T:List AV) (H:Hp):Option (Bool×Ex×List AV×Hp):=
 match al T 0,H with
 | .val (.string s), []=>bif T.length==14 then some (I s, .exit 0,kq ((G s)),jF ((G s))) else none
 | _,_=>none
abbrev AY:Type:=ByteArray→Bool
abbrev AE:Type:=ByteArray→ByteArray
def IG (G:AY) (I:AE) (L:aD):aD:=bu 0 160 gl [0] (Gp G I) L
def pD (s:ByteArray):ByteArray:=Classical.epsilon fun ρ=>aA Tryz.prog (lb 160 gl) (kq s) (jF s) (.exit 0) (kq (ρ)) (jF (ρ))∧DL s ρ
theorem MS (s:ByteArray) (h:yL s):aA Tryz.prog (lb 160 gl) (kq s) (jF s) (.exit 0) (kq ((pD s))) (jF ((pD s)))∧DL s (pD s):=Classical.epsilon_spec (YH s h)
def xv (s:ByteArray):Bool:= @decide (yL s) (Classical.propDecidable _)
theorem Uw (s:ByteArray) (h:yL s):xv s=true:= @decide_eq_true _ (Classical.propDecidable _) h
theorem adH (T:List AV) (H:Hp) (e:Ex) (I:List AV) (G:Hp) (h:Gp xv pD T H=some (true,e,I,G)):V.Ends Tryz.prog false 0 0 (.loop (lb 160 gl)) T H e I G:=by
 unfold Gp at h
 split at h
 ·rename_i s U
  rw [Bool.cond_eq_ite] at h
  split at h
  ·rename_i J
   rw [beq_iff_eq] at J
   simp only [Option.some.injEq,Prod.mk.injEq,Bool.and_eq_true,decide_eq_true_eq] at h
   obtain ⟨k1,rfl,rfl,rfl⟩:=h
   have ab:= @of_decide_eq_true _ (Classical.propDecidable _) k1
   refine Ends.pre (MS s ab).1.ends (fun α B w D aE Z=>bw J (fun p M y O=> ?_) Z)
   simp only [List.mem_cons,List.not_mem_nil,or_false] at M
   subst M
   ·rw [U] at O;exact O
  ·cases h
 ·cases h
theorem QD {L:aD} (h:aC Tryz.prog L):aC Tryz.prog (IG xv pD L):=h.bC RR adH
def He (G:AY) (I:AE):Env:= ⟨aM,az,IG G I aq⟩
theorem abt (G:AY) (I:AE) (s:ByteArray):aG Tryz.prog (He G I) 10 10 160 [.val (.string s)]=
  (bif G s then some (.val (.string (I s))) else none):=by kernel_rfl
theorem qJ:Entry Tryz.prog 160 (og aa):=by
 refine aZ (E:=He xv pD) (u:=10) (d:=10) (aK _) (QD aC.none).ok mixed (by kernel_rfl) (fun args r h=> ?_)
 unfold og at h
 split at h
 ·rename_i s
  cases h
  obtain ⟨_,G⟩:=MS s True.intro
  have G:pD s=av (vS s):=G
  rw [abt,Uw _ True.intro,G]
  rfl
 ·cases h
def G2 (S:Sg):Env:= ⟨au 160 (og S) aM,az,aq⟩
theorem Sw (S:Sg) (b:Bool) (s:ByteArray):aG Tryz.prog (G2 S) 10 10 130 [.agg [.val (.bool b), .val (.string s)]]=
  (bif decide ((0:Int) < (↑s.size:Int)) then (bif decide ((0:Int) < (↑s.size:Int)) then (bif !decide (aT s 0=(0:Int)) then some (.agg [(.val (.bool b)),(.val (.string s))]) else (bif b then some (.agg [(.val (.bool (!aF (S.mg (S.vs s)) (ByteArray.mk #[])))),(.val (.string (S.mg (S.vs s))))]) else some (.agg [(.val (.bool false)),(.val (.string (S.mg (S.vs s))))]))) else none) else (bif b then some (.agg [(.val (.bool (!aF (S.mg (S.vs s)) (ByteArray.mk #[])))),(.val (.string (S.mg (S.vs s))))]) else some (.agg [(.val (.bool false)),(.val (.string (S.mg (S.vs s))))]))):=by kernel_rfl
def oa (S:Sg) (args:List AV):Option (Bool×AV):=match args with | [.agg [.val (.bool b), .val (.string s)]]=>some (true,S.int (S.val b s)) | _=>none
theorem dj (z:Int):aa.ng z=decide (z < 0):=by
 rw [Bool.eq_iff_iff]
 show (enc z).1=true↔_
 unfold enc
 simp only [decide_eq_true_eq]
theorem QT (b:Bool) (s:ByteArray) (G:qq s.data.toList) (hb:b=true→s.data.toList≠ []):AV.agg [.val (.bool b), .val (.string s)]=aa.int (aa.val b s):=by
 have e1:aa.ms (aa.val b s)=s:=by
  show av (aa.val b s).natAbs=s
  rw [← la]
  exact tX s G
 have J:aa.ng (aa.val b s)=b:=by
  rw [dj]
  have I:aa.val b s=if b=true then -(vS s:Int) else (vS s:Int):=rfl
  cases b with
  | true=>
   have M:0 < vS s:=Pj G (hb rfl)
   rw [I,if_pos rfl,decide_eq_true_eq]
   omega
  | false=>
   rw [I,if_neg (by decide),decide_eq_false_iff_not]
   omega
 unfold Sg.int
 rw [e1,J]
theorem tw:Entry Tryz.prog 130 (oa aa):=by
 refine aZ (E:=G2 aa) (u:=10) (d:=10) ((aK _).add qJ) aO mixed (by kernel_rfl) (fun args r h=> ?_)
 unfold oa at h
 split at h
 ·rename_i b s
  cases h
  rw [Sw]
  have O:aF (aa.mg (aa.vs s)) (ByteArray.mk #[])=decide (aa.vs s=0):=qZ (vS s)
  have I:∀ b:Bool,AV.agg [.val (.bool (bif b then !decide (aa.vs s=0) else false)), .val (.string (aa.mg (aa.vs s)))]=aa.int (aa.val b s):=by
   intro b
   have Z:AV.agg [.val (.bool (aa.ng (aa.val b s))), .val (.string (aa.ms (aa.val b s)))]=aa.int (aa.val b s):=rfl
   rw [← Z]
   have e1:aa.ms (aa.val b s)=aa.mg (aa.vs s):=by show av (aa.val b s).natAbs=_;rw [← la];rfl
   have U:aa.ng (aa.val b s)=(bif b then !decide (aa.vs s=0) else false):=by
    have aE:aa.val b s=if b=true then -(aa.vs s:Int) else (aa.vs s:Int):=rfl
    rw [dj,aE]
    cases b
    ·rw [if_neg (by decide)]
     exact decide_eq_false (by omega)
    ·rw [if_pos rfl]
     by_cases h:aa.vs s=0
     ·rw [decide_eq_true h];exact decide_eq_false (by omega)
     ·rw [decide_eq_false h];exact decide_eq_true (by omega)
   rw [e1,U]
  by_cases G:(0:Int) < s.size
  ·obtain ⟨c,l,M⟩:∃ c l,s.data.toList=c :: l:=by
    cases h:s.data.toList with
    | nil=>rw [lR,h] at G;simp at G
    | cons c l=>exact ⟨c,l,rfl⟩
   have hb:=Jc M
   rw [dT G]
   by_cases J:c=0
   ·rw [hb,J,dT (show (((0:UInt8).toNat:Nat):Int)=0 from rfl)]
    cases b
    ·exact congrArg some (I false)
    ·have:=I true
     rw [← O] at this
     exact congrArg some this
   ·have ab:¬ ((c.toNat:Nat):Int)=0:=fun h=>J (UInt8.toNat_inj.1 (by simpa using h))
    rw [hb,dF ab]
    exact congrArg some (QT b s (by rw [M];exact J) (fun _=>by rw [M];simp))
  ·rw [dF G]
   cases b
   ·exact congrArg some (I false)
   ·have:=I true
    rw [← O] at this
    exact congrArg some this
 ·cases h
end
end Go.Proofs.YtamcpiicmfielaaGreat.L
namespace Go.Proofs.YtamcpiicmfielaaGreat.L
open Go Go.V Go.RowKit Go.Proofs.YtamcpiicmfielaaGreat.Sp Go.Proofs.YtamcpiicmfielaaGreat.F Go.Proofs.YtamcpiicmfielaaGreatW.PrintWords
open Go.Proofs (Tryz.prog)
noncomputable section
def zq (x y:Int):Int:=if y=0 then 0 else x.fdiv y
def zr (x y:Int):Int:=if y=0 then 0 else x.fmod y
def ze (y:Int):Int:=if y=0 then 10 else 0
def oq (S:Sg):FuncId→List AV→Option (Bool×AV):=au 106 (vN S) (au 152 (zn S) (au 108 (zu S) (au 69 (kC S) (au 153 (r9 S) (au 75 (kB S) aM)))))
theorem zX:bf Tryz.prog (oq aa):=((((((aK _).add xB).add V4).add xD).add B8).add JT).add B7
theorem UT (S:Sg) (b c:Bool) (s t:ByteArray):letI J:=(S.num (S.len (S.vs s)) (S.row (S.vs s)) / S.num (S.len (S.vs t)) (S.row (S.vs t)));letI I:=(S.sg (bif true then !b==c else b==c) (S.num (S.len J) (S.row J)));letI M:=(S.num (S.len (S.vs s)) (S.row (S.vs s)) % S.num (S.len (S.vs t)) (S.row (S.vs t)));letI G:=(S.sg b (S.num (S.len M) (S.row M)));
  (aG Tryz.prog ⟨oq S,az,aq⟩ 10 10 115 [.agg [.val (.bool b), .val (.string s)], .agg [.val (.bool c), .val (.string t)]]=(bif S.ok t then (bif decide ((↑(S.len (S.vs t)):Int)=(0:Int)) then some (.tup [(.agg [(.val (.bool false)),(.val (.string (ByteArray.mk #[])))]),(.agg [(.val (.bool false)),(.val (.string (ByteArray.mk #[])))]),(.val (.int .i64 10))]) else (bif S.ok s then (bif S.can (S.len (S.vs s)) (S.row (S.vs s))&&S.can (S.len (S.vs t)) (S.row (S.vs t))&&S.br (S.len (S.vs s)) (S.row (S.vs s))&&S.br (S.len (S.vs t)) (S.row (S.vs t))&&decide (0 < S.num (S.len (S.vs t)) (S.row (S.vs t))) then (bif S.bR (S.len J) (S.row J) then (bif S.bR (S.len M) (S.row M) then (bif !aF (S.ms G) (ByteArray.mk #[]) then (bif bif true then !b==c else b==c then (bif S.ok (S.ms I)&&S.ok (S.ms (1:Int)) then (bif S.ok (S.ms G)&&S.ok t then some (.tup [(.agg [(.val (.bool (S.ng (S.val (S.ng I) (S.ms I) - S.val (S.ng (1:Int)) (S.ms (1:Int)))))),(.val (.string (S.ms (S.val (S.ng I) (S.ms I) - S.val (S.ng (1:Int)) (S.ms (1:Int))))))]),(.agg [(.val (.bool (S.ng (S.val (S.ng G) (S.ms G)+S.val c t)))),(.val (.string (S.ms (S.val (S.ng G) (S.ms G)+S.val c t))))]),(.val (.int .i64 0))]) else none) else none) else some (.tup [(.agg [(.val (.bool (S.ng I))),(.val (.string (S.ms I)))]),(.agg [(.val (.bool (S.ng G))),(.val (.string (S.ms G)))]),(.val (.int .i64 0))])) else some (.tup [(.agg [(.val (.bool (S.ng I))),(.val (.string (S.ms I)))]),(.agg [(.val (.bool (S.ng G))),(.val (.string (S.ms G)))]),(.val (.int .i64 0))])) else none) else none) else none) else none)) else none)):=by kernel_rfl
abbrev fU:List Bool:= [false,false,true,true]
def j6 (G I:List Int) (J:Bool) (M:ByteArray):List AV:=ao 28 [(4, .ptr 0 0),(5, .lst false 129 G.length (lim G)),(6, .lst false 129 I.length (lim I))]
def ju (J M:List Int) (G:Bool) (I:ByteArray):Hp:= [.row (.cells [.val (.bool G), .val (.string I)]) 81 .live]
theorem Rm:aI Tryz.prog 114 fU=some (.loop (lb 114 fU)):=by kernel_rfl
theorem S8:aI Tryz.prog 114 (false :: fU)=some (lb 114 fU):=by kernel_rfl
theorem aa7 (S:Sg) (I G:List Int) (J:Bool) (M:ByteArray):aP Tryz.prog ⟨oq S,az,aq⟩ 114 [4,5,6] (lb 114 fU) (false :: fU) (j6 I G J M) (ju I G J M)=
  (bif decide ((0:Int) < (↑G.length:Int)) then (bif S.can I.length (lim I)&&S.can G.length (lim G)&&S.br I.length (lim I)&&S.br G.length (lim G)&&decide (0 < S.num G.length (lim G)) then some (.normal,ao 28 [(4,(.ptr 0 0)),(5,(.lst false 129 G.length (lim G))),(6,(.lst false 129 (S.len (S.num I.length (lim I) % S.num G.length (lim G))) (S.row (S.num I.length (lim I) % S.num G.length (lim G)))))], [(.row (.cells [(.val (.bool J)),(.val (.string M))]) 81 .live)]) else none) else some ((.exit 0),ao 28 [(4,(.ptr 0 0)),(5,(.lst false 129 I.length (lim I))),(6,(.lst false 129 G.length (lim G)))], [(.row (.cells [(.val (.bool J)),(.val (.string M))]) 81 .live)])):=by kernel_rfl
theorem Oh {J M:List Int} {G:Bool} {I:ByteArray} {e:Ex} {T:List AV} {H:Hp} (h:aP Tryz.prog ⟨oq aa,az,aq⟩ 114 [4,5,6] (lb 114 fU) (false :: fU) (j6 J M G I) (ju J M G I)=some (e,T,H)):V.Ends Tryz.prog false 0 0 (lb 114 fU) (j6 J M G I) (ju J M G I) e T H:=
 bK zX aO mixed S8 h
def uy (G I:List Int) (J:Bool) (M:ByteArray):Prop:=∃ a b:Nat,G=toL a∧I=toL b∧(toL a).length≤8796093022208∧(toL b).length≤8796093022208
def uk (G I:List Int) (J:Bool) (M:ByteArray) (r:List Int×List Int):Prop:=r.1=toL (Nat.gcd (vL G) (vL I))
theorem nU {n:Nat} (h:(toL n).length≤8796093022208):aa.br (toL n).length (lim (toL n))=true:=by
 show (okB (toL n).length (lim (toL n))&&decide ((toL n).length≤8796093022208))=true
 rw [jM,decide_eq_true h];rfl
theorem CW {a b:Nat} (h:a≤b):(toL a).length≤(toL b).length:=kK (Nat.lt_of_le_of_lt h (ly (Nat.le_refl _)))
theorem x9 (n:Nat):((toL n).length:Int)=0↔n=0:=by
 constructor
 ·intro h
  exact (toL_nil_iff n).1 (List.length_eq_zero_iff.1 (by omega))
 ·intro h;subst h;rw [toL_zero];rfl
theorem WD (G:Bool) (I:ByteArray) (n:Nat):∀ a b:Nat,b=n→(toL a).length≤8796093022208→(toL b).length≤8796093022208→∃ r:List Int×List Int,aA Tryz.prog (lb 114 fU) (j6 (toL a) (toL b) G I) (ju (toL a) (toL b) G I) (.exit 0) (j6 r.1 r.2 G I) (ju r.1 r.2 G I)∧r.1=toL (Nat.gcd a b):=by
 induction n using Nat.strongRecOn with
 | _ n a1=>
  intro a b hb ab M
  have J:=aa7 aa (toL a) (toL b) G I
  simp only [mw] at J
  by_cases O:b=0
  ·subst O
   refine ⟨(toL a,toL 0), .last (Oh ?_) (by intro h;cases h),by rw [Nat.gcd_zero_right]⟩
   rw [J,dF (show ¬ (0:Int) < ((toL 0).length:Int) by rw [toL_zero];decide)]
   rfl
  ·have aE:a % b < b:=Nat.mod_lt _ (by omega)
   have a6:=CW (Nat.le_of_lt aE)
   obtain ⟨r,U,Z⟩:=a1 (a % b) (by omega) b (a % b) rfl M (by omega)
   refine ⟨r, .more (Oh ?_) U,by rw [Z,Nat.gcd_comm b,← Nat.gcd_rec,Nat.gcd_comm]⟩
   have a7:=x9 b
   rw [J,dT (show (0:Int) < ((toL b).length:Int) by omega),gI (by omega),gI (by omega),nU ab,nU M,dT (show 0 < b by omega)]
   rfl
theorem Yd (J M:List Int) (G:Bool) (I:ByteArray) (h:uy J M G I):∃ r:List Int×List Int,aA Tryz.prog (lb 114 fU) (j6 J M G I) (ju J M G I) (.exit 0) (j6 r.1 r.2 G I) (ju r.1 r.2 G I)∧uk J M G I r:=by
 obtain ⟨a,b,rfl,rfl,O,U⟩:=h
 unfold uk
 rw [cX,cX]
 exact WD G I b a b rfl O U
def FT (ab:List Int→List Int→Bool→ByteArray→Bool) (Z:List Int→List Int→Bool→ByteArray→List Int×List Int) (T:List AV) (H:Hp):Option (Bool×Ex×List AV×Hp):=
 match al T 4,al T 5,al T 6,H with
 | .ptr 0 0, .lst false 129 O J, .lst false 129 U M, [.row (.cells [.val (.bool G), .val (.string I)]) 81 .live]=>bif T.length==28 then some (okB O J&&okB U M&&ab (rowOf O J) (rowOf U M) G I, .exit 0,j6 ((Z (rowOf O J) (rowOf U M) G I).1) ((Z (rowOf O J) (rowOf U M) G I).2) G I,ju ((Z (rowOf O J) (rowOf U M) G I).1) ((Z (rowOf O J) (rowOf U M) G I).2) G I) else none
 | _,_,_,_=>none
abbrev H4:Type:=List Int→List Int→Bool→ByteArray→Bool
abbrev Hw:Type:=List Int→List Int→Bool→ByteArray→List Int×List Int
def Bb (G:H4) (I:Hw) (L:aD):aD:=bu 0 114 fU [4,5,6] (FT G I) L
def mI (J M:List Int) (G:Bool) (I:ByteArray):List Int×List Int:=Classical.epsilon fun ρ=>aA Tryz.prog (lb 114 fU) (j6 J M G I) (ju J M G I) (.exit 0) (j6 (ρ.1) (ρ.2) G I) (ju (ρ.1) (ρ.2) G I)∧uk J M G I ρ
theorem Mv (J M:List Int) (G:Bool) (I:ByteArray) (h:uy J M G I):aA Tryz.prog (lb 114 fU) (j6 J M G I) (ju J M G I) (.exit 0) (j6 ((mI J M G I).1) ((mI J M G I).2) G I) (ju ((mI J M G I).1) ((mI J M G I).2) G I)∧uk J M G I (mI J M G I):=Classical.epsilon_spec (Yd J M G I h)
def sT (J M:List Int) (G:Bool) (I:ByteArray):Bool:= @decide (uy J M G I) (Classical.propDecidable _)
theorem T3 (J M:List Int) (G:Bool) (I:ByteArray) (h:uy J M G I):sT J M G I=true:= @decide_eq_true _ (Classical.propDecidable _) h
theorem adb (T:List AV) (H:Hp) (e:Ex) (J:List AV) (I:Hp) (h:FT sT mI T H=some (true,e,J,I)):V.Ends Tryz.prog false 0 0 (.loop (lb 114 fU)) T H e J I:=by
 unfold FT at h
 split at h
 ·rename_i b0 U b1 Z b2 b3 ab aE a1
  rw [Bool.cond_eq_ite] at h
  split at h
  ·rename_i M
   rw [beq_iff_eq] at M
   simp only [Option.some.injEq,Prod.mk.injEq,Bool.and_eq_true,decide_eq_true_eq] at h
   obtain ⟨⟨⟨k1,a7⟩,bx⟩,rfl,rfl,rfl⟩:=h
   have bD:= @of_decide_eq_true _ (Classical.propDecidable _) bx
   refine Ends.pre (Mv (rowOf b0 U) (rowOf b1 Z) b2 b3 bD).1.ends (fun α B w D b4 a6=>bw M (fun p O y G=> ?_) a6)
   simp only [List.mem_cons,List.not_mem_nil,or_false] at O
   rcases O with rfl | rfl | rfl
   ·rw [ab] at G;exact G
   ·rw [aE] at G;rw [cz];exact cB cr k1 G
   ·rw [a1] at G;rw [cz];exact cB cr a7 G
  ·cases h
 ·cases h
theorem Qb {L:aD} (h:aC Tryz.prog L):aC Tryz.prog (Bb sT mI L):=h.bC Rm adb
theorem WE (S:Sg) (I:H4) (G:Hw) (b c:Bool) (s t:ByteArray):aG Tryz.prog ⟨oq S,az,Bb I G aq⟩ 10 10 114 [.agg [.val (.bool b), .val (.string s)], .agg [.val (.bool c), .val (.string t)]]=
  (bif S.ok s then (bif S.ok t then (bif okB (S.len (S.vs s)) (S.row (S.vs s))&&okB (S.len (S.vs t)) (S.row (S.vs t))&&I (rowOf (S.len (S.vs s)) (S.row (S.vs s))) (rowOf (S.len (S.vs t)) (S.row (S.vs t))) false (ByteArray.mk #[]) then (bif S.bR (G (rowOf (S.len (S.vs s)) (S.row (S.vs s))) (rowOf (S.len (S.vs t)) (S.row (S.vs t))) false (ByteArray.mk #[])).fst.length (lim (G (rowOf (S.len (S.vs s)) (S.row (S.vs s))) (rowOf (S.len (S.vs t)) (S.row (S.vs t))) false (ByteArray.mk #[])).fst) then some (.agg [(.val (.bool (S.ng (S.sg false (S.num (G (rowOf (S.len (S.vs s)) (S.row (S.vs s))) (rowOf (S.len (S.vs t)) (S.row (S.vs t))) false (ByteArray.mk #[])).fst.length (lim (G (rowOf (S.len (S.vs s)) (S.row (S.vs s))) (rowOf (S.len (S.vs t)) (S.row (S.vs t))) false (ByteArray.mk #[])).fst)))))),(.val (.string (S.ms (S.sg false (S.num (G (rowOf (S.len (S.vs s)) (S.row (S.vs s))) (rowOf (S.len (S.vs t)) (S.row (S.vs t))) false (ByteArray.mk #[])).fst.length (lim (G (rowOf (S.len (S.vs s)) (S.row (S.vs s))) (rowOf (S.len (S.vs t)) (S.row (S.vs t))) false (ByteArray.mk #[])).fst))))))]) else none) else none) else none) else none):=by kernel_rfl
end
end Go.Proofs.YtamcpiicmfielaaGreat.L
namespace Go.Proofs.YtamcpiicmfielaaGreat.L
open Go Go.V Go.RowKit Go.Proofs.YtamcpiicmfielaaGreat.Sp Go.Proofs.YtamcpiicmfielaaGreat.F Go.Proofs.YtamcpiicmfielaaGreatW.PrintWords
open Go.Proofs (Tryz.prog)
noncomputable section
theorem tJ {x y q r:Int} (h:r+y*q=x) (G:(0≤r∧r < y)∨(y < r∧r≤0)):zq x y=q∧zr x y=r:=by
 unfold zq zr
 have I:y≠0:=by omega
 rw [if_neg I,if_neg I]
 rcases G with G | G
 ·exact (Int.fdiv_fmod_unique (by omega)).2 ⟨h,G⟩
 ·exact (Int.fdiv_fmod_unique' (by omega)).2 ⟨h,G⟩
theorem Y8 (z:Int):aF (aa.ms z) (ByteArray.mk #[])=decide (z=0):=by
 show aF (av z.natAbs) _=_
 rw [qZ]
 exact decide_eq_decide.2 (by omega)
theorem UW (b c:Bool) (n m:Nat) (U:0 < m):zq (aa.sg b n) (aa.sg c m)=(if n % m≠0∧b≠c then aa.sg (!(b==c)) (n / m) - 1 else aa.sg (!(b==c)) (n / m))∧
  zr (aa.sg b n) (aa.sg c m)=(if n % m≠0∧b≠c then aa.sg b (n % m)+aa.sg c m else aa.sg b (n % m)):=by
 have ab:=Nat.mod_lt n U
 have M:(n:Int)=(m:Int)*((n / m:Nat):Int)+((n % m:Nat):Int):=by
  rw [← Int.natCast_mul,← Int.natCast_add,Nat.div_add_mod]
 generalize n / m=Q at*
 generalize n % m=R at*
 have G:∀ k:Nat,aa.sg true k= -(k:Int):=fun k=>rfl
 have I:∀ k:Nat,aa.sg false k=(k:Int):=fun k=>rfl
 by_cases h:R≠0∧b≠c
 ·rw [if_pos h,if_pos h]
  have Z:=h.1
  apply tJ
  ·cases b <;> cases c <;> first | exact absurd rfl h.2 | (simp only [show (!(true==false))=true from rfl,show (!(false==true))=true from rfl,G,I,M];grind)
  ·cases b <;> cases c <;> first | exact absurd rfl h.2 | (simp only [G,I];omega)
 ·rw [if_neg h,if_neg h]
  apply tJ
  ·cases b <;> cases c <;> (simp only [show (!(true==false))=true from rfl,show (!(false==true))=true from rfl,show (!(true==true))=false from rfl,show (!(false==false))=false from rfl,G,I,M];grind)
  ·have h':R=0∨b=c:=by
    rcases Nat.eq_zero_or_pos R with J | J
    ·exact Or.inl J
    ·exact Or.inr (Classical.byContradiction fun O=>h ⟨by omega,O⟩)
   rcases h' with h' | h'
   ·subst h'
    cases b <;> cases c <;> (simp only [G,I];omega)
   ·subst h'
    cases b <;> (simp only [G,I];omega)
theorem Pt (b:Bool) (s:ByteArray):aa.val b s=aa.sg b (aa.vs s):=rfl
theorem Vv (X:Xg) (b0:X.dq=zq) (b1:X.dr=zr) (bD:X.de=ze):Entry Tryz.prog 115 (r6 aa X):=by
 refine aZ (E:= ⟨oq aa,az,aq⟩) (u:=10) (d:=10) zX aO mixed (by kernel_rfl) (fun args r h=> ?_)
 unfold r6 at h
 split at h
 ·rename_i b s c t
  simp only [Option.some.injEq,Prod.mk.injEq,Bool.and_eq_true] at h
  obtain ⟨⟨ab,O⟩,rfl⟩:=h
  rw [b0,b1,bD]
  have I:=UT aa b c s t
  simp only [my,Y8,eW] at I
  have aE:((aa.len (aa.vs t):Nat):Int)=0↔aa.vs t=0:=x9 _
  have b3:aa.val c t=aa.sg c (aa.vs t):=rfl
  by_cases M:aa.vs t=0
  ·have U:aa.val c t=0:=by rw [b3,M];cases c <;> rfl
   rw [O,dT (aE.2 M)] at I
   rw [I,U]
   unfold zq zr ze
   rw [if_pos rfl,if_pos rfl,if_pos rfl]
   unfold Sg.int
   rw [lA]
   rfl
  ·have k1:=nT ab
   have b2:=nT O
   have b4:=R9 (aa.vs s) (aa.vs t)
   have b5:=Sb (aa.vs s) (aa.vs t)
   have U:aa.val c t≠0:=by
    intro e;have:=la c t;rw [e] at this;exact M this
   have bx:ze (aa.val c t)=0:=by unfold ze;rw [if_neg U]
   obtain ⟨g1,g2⟩:=UW b c (aa.vs s) (aa.vs t) (by omega)
   rw [ab,O,dF (fun e=>M (aE.1 e)),wZ (by omega),wZ (by omega),ru k1,ru b2,dT (show 0 < aa.vs t by omega),rq (by omega),rq (by omega)] at I
   rw [bx,Pt b s,Pt c t,g1,g2]
   rw [I]
   clear I
   have a6:∀ k:Nat,aa.sg true k= -(k:Int):=fun k=>rfl
   have a7:∀ k:Nat,aa.sg false k=(k:Int):=fun k=>rfl
   have a1:∀ b:Bool,(aa.sg b (aa.vs s % aa.vs t)=0)↔aa.vs s % aa.vs t=0:=by
    intro b
    cases b
    ·rw [a7];omega
    ·rw [a6];omega
   have Z:∀ (b:Bool) (k:Nat),(aa.sg b k).natAbs=k:=by
    intro b k
    cases b
    ·rw [a7];omega
    ·rw [a6];omega
   by_cases J:aa.vs s % aa.vs t=0
   ·rw [dT ((a1 b).2 J),if_neg (fun h=>h.1 J),if_neg (fun h=>h.1 J)]
    rfl
   ·rw [dF (fun e=>J ((a1 b).1 e))]
    have o1:∀ b:Bool,aa.ok (aa.ms (aa.sg b (aa.vs s / aa.vs t)))=true:=fun b=>bS (by rw [Z];omega)
    have o2:∀ b:Bool,aa.ok (aa.ms (aa.sg b (aa.vs s % aa.vs t)))=true:=fun b=>bS (by rw [Z];omega)
    have o3:aa.ok (aa.ms 1)=true:=bS (by rw [show (1:Int).natAbs=1 from rfl];exact Nat.le_trans (gH (n:=1) (m:=1) (by decide)) (by decide))
    rw [o1,o2,o3]
    by_cases G:b=c
    ·rw [if_neg (fun h=>h.2 G),if_neg (fun h=>h.2 G)]
     subst G
     cases b <;> rfl
    ·rw [if_pos ⟨J,G⟩,if_pos ⟨J,G⟩]
     cases b <;> cases c <;> first | exact absurd rfl G | rfl
 ·cases h
theorem Vy (X:Xg) (Z:X.gcd=fun x y=>(Nat.gcd x.natAbs y.natAbs:Int)):Entry Tryz.prog 114 (zo aa X):=by
 refine aZ (E:= ⟨oq aa,az,Bb sT mI aq⟩) (u:=10) (d:=10) zX (Qb aC.none).ok mixed (by kernel_rfl) (fun args r h=> ?_)
 unfold zo at h
 split at h
 ·rename_i b s c t
  simp only [Option.some.injEq,Prod.mk.injEq,Bool.and_eq_true] at h
  obtain ⟨⟨J,M⟩,rfl⟩:=h
  rw [Z]
  have G:=WE aa sT mI b c s t
  have k1:=nT J
  have a1:=nT M
  have l1:=oZ (aa.vs s)
  have l2:=oZ (aa.vs t)
  have er:∀ n:Nat,rowOf (aa.len n) (aa.row n)=toL n:=fun n=>lO n
  have U:∀ n:Nat,okB (aa.len n) (aa.row n)=true:=fun n=>jM n
  simp only [er,U] at G
  have O:uy (toL (aa.vs s)) (toL (aa.vs t)) false (ByteArray.mk #[]):= ⟨_,_,rfl,rfl,Nat.le_trans l1 k1,Nat.le_trans l2 a1⟩
  obtain ⟨_,I⟩:=Mv _ _ _ _ O
  unfold uk at I
  rw [cX,cX] at I
  have hb:bs (Nat.gcd (aa.vs s) (aa.vs t))≤max (bs (aa.vs s)) (bs (aa.vs t)):=by
   rcases Nat.eq_zero_or_pos (aa.vs s) with e | e
   ·rw [e,Nat.gcd_zero_left];exact Nat.le_max_right _ _
   ·exact Nat.le_trans (dH (Nat.gcd_le_left _ e)) (Nat.le_max_left _ _)
  have ab:=oZ (Nat.gcd (aa.vs s) (aa.vs t))
  have aE:(toL (Nat.gcd (aa.vs s) (aa.vs t))).length≤17592186044416:=Nat.le_trans ab (by omega)
  rw [J,M,T3 _ _ _ _ O,I,uf aE,mw] at G
  rw [G]
  refine congrArg some ?_
  show aa.int (Nat.gcd (aa.vs s) (aa.vs t):Nat)=_
  rw [la b s,la c t]
 ·cases h
def aY:Xg where
 sv z:=if -9223372036854775808≤z∧z < 9223372036854775808 then z else 0
 sb z:=decide (-9223372036854775808≤z∧z < 9223372036854775808)
 dq:=zq
 dr:=zr
 de:=ze
 gcd x y:=(Nat.gcd x.natAbs y.natAbs:Int)
 rt z:=if z < 0 then 0 else (bH z.natAbs:Int)
 rx z:=if z < 0 then false else decide (bH z.natAbs*bH z.natAbs=z.natAbs)
 re z:=if z < 0 then 2 else 0
 pr x:=ByteArray.mk #[]
 pv s:=0
 pe s:=0
 cL s:=decide (s.size≤68719476736)
 mD s:=true
theorem JS:Entry Tryz.prog 115 (r6 aa aY):=Vv aY rfl rfl rfl
theorem Vx:Entry Tryz.prog 114 (zo aa aY):=Vy aY rfl
theorem zqr {x y:Int} (h:y≠0):zr x y+y*zq x y=x∧(0 < y→0≤zr x y∧zr x y < y)∧(y < 0→y < zr x y∧zr x y≤0):=by
 unfold zr zq
 rw [if_neg h,if_neg h]
 rcases Int.lt_or_gt_of_ne h with G | G
 ·have:=(Int.fdiv_fmod_unique' (a:=x) G).1 ⟨rfl,rfl⟩
  exact ⟨this.1,fun h=>by omega,fun _=>this.2⟩
 ·have:=(Int.fdiv_fmod_unique (a:=x) G).1 ⟨rfl,rfl⟩
  exact ⟨this.1,fun _=>this.2,fun h=>by omega⟩
theorem Sd (x y:Int):bs (zq x y).natAbs≤bs x.natAbs+1:=by
 by_cases h:y=0
 ·unfold zq;rw [if_pos h];exact Nat.le_trans (gH (n:=(0:Int).natAbs) (m:=0) (by decide)) (Nat.zero_le _)
 ·obtain ⟨e,I,J⟩:=zqr (x:=x) h
  have O:(zq x y).natAbs≤x.natAbs+1:=by
   generalize zr x y=r at*
   generalize zq x y=q at*
   have ab:(y*q).natAbs=y.natAbs*q.natAbs:=Int.natAbs_mul y q
   rcases Nat.lt_or_ge (x.natAbs+1) q.natAbs with G | G
   ·have U:y.natAbs*(x.natAbs+2)≤y.natAbs*q.natAbs:=Nat.mul_le_mul_left _ G
    have Z:1*x.natAbs≤y.natAbs*x.natAbs:=Nat.mul_le_mul_right _ (by omega)
    rw [Nat.mul_add] at U
    rcases Int.lt_or_gt_of_ne h with M | M
    ·have:=J M;omega
    ·have:=I M;omega
   ·exact G
  have:=sI x.natAbs 1
  have I:bs 1≤1:=gH (by decide)
  have J:=dH O
  rcases Nat.eq_zero_or_pos x.natAbs with e0 | e0
  ·rw [e0] at O J ⊢
   have:bs (0+1)≤1:=I
   omega
  ·have G:1≤bs x.natAbs:=by
    rcases Nat.eq_zero_or_pos (bs x.natAbs) with e1 | e1
    ·have:=nz x.natAbs
     rw [e1] at this
     omega
    ·exact e1
   omega
theorem Kk:ze 0=10:=if_pos rfl
theorem Kl {y:Int} (h:y≠0):ze y=0:=if_neg h
end
end Go.Proofs.YtamcpiicmfielaaGreat.L
namespace Go.Proofs.YtamcpiicmfielaaGreat.L
open Go Go.V Go.RowKit Go.Proofs.YtamcpiicmfielaaGreat.Sp Go.Proofs.YtamcpiicmfielaaGreat.F
open Go.Proofs (Tryz.prog)
noncomputable section
theorem zU:aa.val false (ByteArray.mk #[])=0:=of_eq_true (eq_true rfl)
theorem GL:aY.dq=zq:=of_eq_true (eq_true rfl)
theorem Py:aY.de=ze:=of_eq_true (eq_true rfl)
theorem Zg {x:Int} (h:0≤x):aa.ng x=false:=by
 show (enc x).1=false
 unfold enc
 simp only [decide_eq_false_iff_not]
 omega
theorem sH {p q:Prop} [Decidable p] [Decidable q] (h:p↔q):(decide p==decide q)=true:=by
 rw [decide_eq_decide.2 h];exact beq_self_eq_true _
theorem wQ {p q:Prop} [Decidable p] [Decidable q] (h:¬ (p↔q)):(decide p==decide q)=false:=by
 by_cases G:p <;> by_cases I:q
 ·exact absurd ⟨fun _=>I,fun _=>G⟩ h
 ·rw [decide_eq_true G,decide_eq_false I];rfl
 ·rw [decide_eq_false G,decide_eq_true I];rfl
 ·exact absurd ⟨fun k=>absurd k G,fun k=>absurd k I⟩ h
end
end Go.Proofs.YtamcpiicmfielaaGreat.L
namespace Go.Proofs.YtamcpiicmfielaaGreat.L
open Go Go.V Go.RowKit Go.Proofs.YtamcpiicmfielaaGreat.Sp Go.Proofs.YtamcpiicmfielaaGreat.F
open Go.Proofs (Tryz.prog)
noncomputable section
def zg (x y:Int):Int:=(Nat.gcd x.natAbs y.natAbs:Nat)
theorem Pz:aY.gcd=zg:=of_eq_true (eq_true rfl)
theorem BE (x y:Int):bs (zg x y).natAbs≤max (bs x.natAbs) (bs y.natAbs):=by
 unfold zg
 rw [Int.natAbs_natCast]
 rcases Nat.eq_zero_or_pos x.natAbs with e | e
 ·rw [e,Nat.gcd_zero_left];exact Nat.le_max_right _ _
 ·exact Nat.le_trans (dH (Nat.gcd_le_left _ e)) (Nat.le_max_left _ _)
end
end Go.Proofs.YtamcpiicmfielaaGreat.L
namespace Go.Proofs.YtamcpiicmfielaaGreat.L
open Go Go.V Go.RowKit Go.Proofs.YtamcpiicmfielaaGreat.Sp Go.Proofs.YtamcpiicmfielaaGreat.F Go.Proofs.YtamcpiicmfielaaGreatW.PrintWords
open Go.Proofs (Tryz.prog)
noncomputable section
def nn (S:Sg):FuncId→List AV→Option (Bool×AV):=au 106 (vN S) (au 152 (zn S) (au 118 (zw S) (au 158 (zO S) (au 107 (vM S) (au 109 (zM S) (au 157 (FF S) (au 108 (zu S) aM)))))))
theorem Af:bf Tryz.prog (nn aa):=((((((((aK _).add B8).add V3).add Kc).add B6).add Ke).add JX).add JT).add B7
abbrev nV:List Bool:= [false,false,true,true,true,true,true,true]
def nb (G I:List Int) (J:Bool) (M:ByteArray):List AV:=ao 56 [(2, .ptr 0 0),(5, .lst false 129 G.length (lim G)),(7, .lst false 129 I.length (lim I))]
def mm (J M:List Int) (G:Bool) (I:ByteArray):Hp:= [.row (.cells [.val (.bool G), .val (.string I)]) 81 .live]
theorem TC:aI Tryz.prog 123 (false :: nV)=some (lb 123 nV):=by kernel_rfl
theorem abf (S:Sg) (I G:List Int) (U:Bool) (Z:ByteArray):letI O:=(S.num I.length (lim I) / S.num G.length (lim G));letI M:=(S.num G.length (lim G)+S.num (S.len O) (S.row O));letI J:=(S.num (S.len M) (S.row M) / 2);
  (aP Tryz.prog ⟨nn S,az,aq⟩ 123 [2,5,7] (lb 123 nV) (false :: nV) (nb I G U Z) (mm I G U Z)=(bif S.can I.length (lim I)&&S.can G.length (lim G)&&S.br I.length (lim I)&&S.br G.length (lim G)&&decide (0 < S.num G.length (lim G)) then (bif S.br G.length (lim G)&&S.br (S.len O) (S.row O) then (bif S.bR (S.len M) (S.row M)&&true&&true then (bif S.can (S.len J) (S.row J)&&S.can G.length (lim G) then (bif decide ((0:Int)≤S.cmp (S.num (S.len J) (S.row J)) (S.num G.length (lim G))) then some ((.exit 0),ao 56 [(2,(.ptr 0 0)),(5,(.lst false 129 I.length (lim I))),(7,(.lst false 129 G.length (lim G)))], [(.row (.cells [(.val (.bool U)),(.val (.string Z))]) 81 .live)]) else some (.normal,ao 56 [(2,(.ptr 0 0)),(5,(.lst false 129 I.length (lim I))),(7,(.lst false 129 (S.len J) (S.row J)))], [(.row (.cells [(.val (.bool U)),(.val (.string Z))]) 81 .live)])) else none) else none) else none) else none)):=by kernel_rfl
theorem Oz {J M:List Int} {G:Bool} {I:ByteArray} {e:Ex} {T:List AV} {H:Hp} (h:aP Tryz.prog ⟨nn aa,az,aq⟩ 123 [2,5,7] (lb 123 nV) (false :: nV) (nb J M G I) (mm J M G I)=some (e,T,H)):V.Ends Tryz.prog false 0 0 (lb 123 nV) (nb J M G I) (mm J M G I) e T H:=
 bK Af aO mixed TC h
abbrev gW:List Bool:= [false,false,true,true,true,true,true,true]
def rR (G I:List Int) (J:Bool) (M:ByteArray):List AV:=ao 56 [(2, .ptr 0 0),(5, .lst false 129 G.length (lim G)),(7, .sl false 129 1 0 I.length)]
def qS (M J:List Int) (G:Bool) (I:ByteArray):Hp:= [.row (.cells [.val (.bool G), .val (.string I)]) 81 .live, .row (.ints .u32 J) 129 .live]
theorem RQ:aI Tryz.prog 123 gW=some (.loop (lb 123 gW)):=by kernel_rfl
theorem TB:aI Tryz.prog 123 (false :: gW)=some (lb 123 gW):=by kernel_rfl
theorem abe (S:Sg) (I G:List Int) (U:Bool) (Z:ByteArray):letI O:=(S.num I.length (lim I) / S.num G.length (lim G));letI M:=(S.num G.length (lim G)+S.num (S.len O) (S.row O));letI J:=(S.num (S.len M) (S.row M) / 2);
  (aP Tryz.prog ⟨nn S,az,aq⟩ 123 [2,5,7] (lb 123 gW) (false :: gW) (rR I G U Z) (qS I G U Z)=(bif decide (0+G.length*1≤G.length) then (bif S.can I.length (lim I)&&S.can G.length (lim G)&&S.br I.length (lim I)&&S.br G.length (lim G)&&decide (0 < S.num G.length (lim G)) then (bif decide (0+G.length*1≤G.length) then (bif S.br G.length (lim G)&&S.br (S.len O) (S.row O) then (bif S.bR (S.len M) (S.row M)&&true&&true then (bif decide (0+G.length*1≤G.length) then (bif S.can (S.len J) (S.row J)&&S.can G.length (lim G) then (bif decide ((0:Int)≤S.cmp (S.num (S.len J) (S.row J)) (S.num G.length (lim G))) then some ((.exit 0),ao 56 [(2,(.ptr 0 0)),(5,(.lst false 129 I.length (lim I))),(7,(.sl false 129 1 0 G.length))], [(.row (.cells [(.val (.bool U)),(.val (.string Z))]) 81 .live),(.row (.ints .u32 G) 129 .froz)]) else some (.normal,ao 56 [(2,(.ptr 0 0)),(5,(.lst false 129 I.length (lim I))),(7,(.lst false 129 (S.len J) (S.row J)))], [(.row (.cells [(.val (.bool U)),(.val (.string Z))]) 81 .live)])) else none) else none) else none) else none) else none) else none) else none)):=by kernel_rfl
theorem acr {J M:List Int} {G:Bool} {I:ByteArray} {e:Ex} {T:List AV} {H:Hp} (h:aP Tryz.prog ⟨nn aa,az,aq⟩ 123 [2,5,7] (lb 123 gW) (false :: gW) (rR J M G I) (qS J M G I)=some (e,T,H)):V.Ends Tryz.prog false 0 0 (lb 123 gW) (rR J M G I) (qS J M G I) e T H:=
 bK Af aO mixed TB h
theorem BV (y x:Nat):0≤aa.cmp y x↔x≤y:=by
 show 0≤cu y x↔_
 unfold cu
 split <;> (try split) <;> omega
theorem L8 {n:Nat} (h:(toL n).length≤8796093022208):aa.br (aa.len n) (aa.row n)=true:=nU h
theorem L6 {n:Nat} (h:(toL n).length≤17592186044416):aa.bR (aa.len n) (aa.row n)=true:=uf h
theorem wY {n:Nat} (h:(toL n).length≤17592186044416):aa.can (aa.len n) (aa.row n)=true:=gI h
theorem NQ {a x:Nat} (ha:(toL a).length≤1099511627776) (I:(toL x).length≤1099511627776):(toL (a / x)).length≤1099511627776∧(toL (x+a / x)).length≤2199023255554∧(toL ((x+a / x) / 2)).length≤2199023255554:=by
 have J:(toL (a / x)).length≤(toL a).length:=yb (Nat.div_le_self a x)
 have G:(toL (x+a / x)).length≤2199023255554:=Nat.le_trans (XK I (show (toL (a / x)).length≤1099511627776 by omega)) (by omega)
 exact ⟨by omega,G,Nat.le_trans (yb (Nat.div_le_self _ 2)) G⟩
theorem abr (G:Bool) (I:ByteArray) (a:Nat) (bD:0 < a) (ha:(toL a).length≤1099511627776) (n:Nat):∀ x:Nat,x=n→0 < x→(toL x).length≤1099511627776→a < (x+1)*(x+1)→
  aA Tryz.prog (lb 123 nV) (nb (toL a) (toL x) G I) (mm (toL a) (toL x) G I) (.exit 0) (nb (toL a) (toL (bH a)) G I) (mm (toL a) (toL (bH a)) G I):=by
 induction n using Nat.strongRecOn with
 | _ n bx=>
  intro x b0 M U ab
  obtain ⟨b1,b2,b3⟩:=NQ ha U
  have J:=abf aa (toL a) (toL x) G I
  simp only [mw,my] at J
  rw [gI (n:=a) (by omega),gI (n:=x) (by omega),nU (n:=a) (by omega),nU (n:=x) (by omega),dT (show 0 < x from M),L8 (n:=a / x) (by omega),L6 (n:=x+a / x) (by omega),wY (n:=(x+a / x) / 2) (by omega)] at J
  by_cases O:x≤(x+a / x) / 2
  ·have a1:=Zf M O
   have Z:=Eb a
   have a6:x=bH a:=aa6 a1 ab Z.1 Z.2
   rw [← a6]
   refine .last (Oz ?_) (by intro h;cases h)
   rw [J,dT ((BV _ _).2 O)]
   rfl
  ·have a7:0 < (x+a / x) / 2:=by
    rcases Nat.eq_zero_or_pos ((x+a / x) / 2) with h | h
    ·have:=yo (a:=a) M
     rw [h] at this
     omega
    ·exact h
   have aE:=bx ((x+a / x) / 2) (by omega) _ rfl a7 (Nat.le_trans (yb (show (x+a / x) / 2≤x by omega)) U) (yo M)
   refine .more (Oz ?_) aE
   rw [J,dF (fun h=>O ((BV _ _).1 h))]
   rfl
def uZ (G I:List Int) (J:Bool) (M:ByteArray):Prop:=∃ a x:Nat,G=toL a∧I=toL x∧0 < a∧(toL a).length≤1099511627776∧(toL x).length≤1099511627776∧a < x*x
def um (G M:List Int) (I:Bool) (J:ByteArray) (r:List Int):Prop:=r=toL (bH (vL G))
theorem YG (J M:List Int) (G:Bool) (I:ByteArray) (h:uZ J M G I):∃ r:List Int,aA Tryz.prog (lb 123 gW) (rR J M G I) (qS J M G I) (.exit 0) (nb J r G I) (mm J r G I)∧um J M G I r:=by
 obtain ⟨a,x,rfl,rfl,ab,ha,Z,aE⟩:=h
 unfold um
 rw [cX]
 have U:0 < x:=by
  rcases Nat.eq_zero_or_pos x with h | h
  ·subst h;omega
  ·exact h
 have a7:a / x < x:=Nat.div_lt_of_lt_mul aE
 obtain ⟨bx,bD,b0⟩:=NQ ha Z
 have a6:0 < (x+a / x) / 2:=by
  rcases Nat.eq_zero_or_pos ((x+a / x) / 2) with h | h
  ·have:=yo (a:=a) U
   rw [h] at this
   omega
  ·exact h
 have a1:=abr G I a ab ha _ ((x+a / x) / 2) rfl a6 (Nat.le_trans (yb (show (x+a / x) / 2≤x by omega)) Z) (yo U)
 refine ⟨toL (bH a), .more (acr ?_) a1,rfl⟩
 have O:=abe aa (toL a) (toL x) G I
 simp only [mw,my] at O
 rw [dT (show 0+(toL x).length*1≤(toL x).length by omega),gI (n:=a) (by omega),gI (n:=x) (by omega),nU (n:=a) (by omega),nU (n:=x) (by omega),dT (show 0 < x from U),L8 (n:=a / x) (by omega),L6 (n:=x+a / x) (by omega),wY (n:=(x+a / x) / 2) (by omega),dF (fun h=>absurd ((BV _ _).1 h) (by omega))] at O
 rw [O]
 rfl
def Gn (ab:List Int→List Int→Bool→ByteArray→Bool) (U:List Int→List Int→Bool→ByteArray→List Int) (T:List AV) (H:Hp):Option (Bool×Ex×List AV×Hp):=
 match al T 2,al T 5,al T 7,H with
 | .ptr 0 0, .lst false 129 I G, .sl false 129 1 0 Z, [.row (.cells [.val (.bool J), .val (.string M)]) 81 .live, .row (.ints .u32 O) 129 .live]=>bif T.length==56 then some (okB I G&&decide (Z=O.length)&&ab (rowOf I G) O J M, .exit 0,nb (rowOf I G) ((U (rowOf I G) O J M)) J M,mm (rowOf I G) ((U (rowOf I G) O J M)) J M) else none
 | _,_,_,_=>none
abbrev Im:Type:=List Int→List Int→Bool→ByteArray→Bool
abbrev HN:Type:=List Int→List Int→Bool→ByteArray→List Int
def wA (G:Im) (I:HN) (L:aD):aD:=bu 0 123 gW [2,5,7] (Gn G I) L
def lJ (J M:List Int) (G:Bool) (I:ByteArray):List Int:=Classical.epsilon fun ρ=>aA Tryz.prog (lb 123 gW) (rR J M G I) (qS J M G I) (.exit 0) (nb J (ρ) G I) (mm J (ρ) G I)∧um J M G I ρ
theorem MR (J M:List Int) (G:Bool) (I:ByteArray) (h:uZ J M G I):aA Tryz.prog (lb 123 gW) (rR J M G I) (qS J M G I) (.exit 0) (nb J ((lJ J M G I)) G I) (mm J ((lJ J M G I)) G I)∧um J M G I (lJ J M G I):=Classical.epsilon_spec (YG J M G I h)
def nC (J M:List Int) (G:Bool) (I:ByteArray):Bool:= @decide (uZ J M G I) (Classical.propDecidable _)
theorem Uv (J M:List Int) (G:Bool) (I:ByteArray) (h:uZ J M G I):nC J M G I=true:= @decide_eq_true _ (Classical.propDecidable _) h
theorem adG (T:List AV) (H:Hp) (e:Ex) (J:List AV) (I:Hp) (h:Gn nC lJ T H=some (true,e,J,I)):V.Ends Tryz.prog false 0 0 (.loop (lb 123 gW)) T H e J I:=by
 unfold Gn at h
 split at h
 ·rename_i b0 Z b3 b1 b2 U ab aE a1
  rw [Bool.cond_eq_ite] at h
  split at h
  ·rename_i M
   rw [beq_iff_eq] at M
   simp only [Option.some.injEq,Prod.mk.injEq,Bool.and_eq_true,decide_eq_true_eq] at h
   obtain ⟨⟨⟨k1,a7⟩,bx⟩,rfl,rfl,rfl⟩:=h
   have bD:= @of_decide_eq_true _ (Classical.propDecidable _) bx
   refine Ends.pre (MR (rowOf b0 Z) U b1 b2 bD).1.ends (fun α B w D U a6=>bw M (fun p O y G=> ?_) a6)
   simp only [List.mem_cons,List.not_mem_nil,or_false] at O
   rcases O with rfl | rfl | rfl
   ·rw [ab] at G;exact G
   ·rw [aE] at G;rw [cz];exact cB cr k1 G
   ·rw [a1] at G;rw [← a7];exact G
  ·cases h
 ·cases h
theorem QC {L:aD} (h:aC Tryz.prog L):aC Tryz.prog (wA nC lJ L):=h.bC RQ adG
theorem Ec (S:Sg) (U:Im) (Z:HN) (b:Bool) (s:ByteArray):letI J:=(rowOf (S.len (S.vs s)) (S.row (S.vs s)));letI I:=(((↑(S.bl (S.num (S.len (S.vs s)) (S.row (S.vs s)))):Int)+(1:Int)).tdiv (2:Int));letI O:=(List.take ((I.tdiv (32:Int)).toNat*1) (List.replicate (I.tdiv (32:Int)).toNat (0:Int)) ++ [IntKind.u32.wrap ((1:Int)*(2:Int) ^ min (I.tmod (32:Int)).toNat 32)]);letI G:=(Z J O false (ByteArray.mk #[]));letI M:=(S.num G.length (lim G)*S.num G.length (lim G));
  (aG Tryz.prog ⟨nn S,az,wA U Z aq⟩ 10 10 123 [.agg [.val (.bool b), .val (.string s)]]=(bif S.ok s then (bif decide ((↑(S.len (S.vs s)):Int)=(0:Int)) then some (.tup [(.agg [(.val (.bool false)),(.val (.string (ByteArray.mk #[])))]),(.val (.bool true)),(.val (.int .i64 0))]) else (bif b then some (.tup [(.agg [(.val (.bool false)),(.val (.string (ByteArray.mk #[])))]),(.val (.bool false)),(.val (.int .i64 2))]) else (bif S.can (S.len (S.vs s)) (S.row (S.vs s)) then (bif ah IntKind.i64 ((↑(S.bl (S.num (S.len (S.vs s)) (S.row (S.vs s)))):Int)+(1:Int)) then (bif ah IntKind.i64 I then (bif ah IntKind.i64 (I.tdiv (32:Int)) then (bif decide (I.tdiv (32:Int)≤I.tdiv (32:Int))&&decide ((4:Int)*I.tdiv (32:Int)≤(281474976710656:Int))&&decide (I.tdiv (32:Int)≤(9223372036854775807:Int)) then (bif decide ((I.tdiv (32:Int)).toNat*1≤(List.replicate (I.tdiv (32:Int)).toNat (0:Int)).length)&&aQ Tryz.prog ((I.tdiv (32:Int)).toNat+1) 129&&true then (bif okB (S.len (S.vs s)) (S.row (S.vs s))&&decide ((I.tdiv (32:Int)).toNat+1=O.length)&&U J O false (ByteArray.mk #[]) then (bif S.bR G.length (lim G) then (bif S.br G.length (lim G)&&S.br G.length (lim G) then (bif S.can (S.len M) (S.row M)&&S.can J.length (lim J) then some (.tup [(.agg [(.val (.bool (S.ng (S.sg false (S.num G.length (lim G)))))),(.val (.string (S.ms (S.sg false (S.num G.length (lim G))))))]),(.val (.bool (decide (S.cmp (S.num (S.len M) (S.row M)) (S.num J.length (lim J))=(0:Int))))),(.val (.int .i64 0))]) else none) else none) else none) else none) else none) else none) else none) else none) else none) else none))) else none)):=by kernel_rfl
end
end Go.Proofs.YtamcpiicmfielaaGreat.L
namespace Go.Proofs.YtamcpiicmfielaaGreat.L
open Go Go.V Go.RowKit Go.Proofs.YtamcpiicmfielaaGreat.Sp Go.Proofs.YtamcpiicmfielaaGreat.F Go.Proofs.YtamcpiicmfielaaGreatW.PrintWords
open Go.Proofs (Tryz.prog)
noncomputable section
theorem PC {z:Int} (h:¬ z < 0):aY.rt z=(bH z.natAbs:Int):=if_neg h
theorem PD {z:Int} (h:¬ z < 0):aY.rx z=decide (bH z.natAbs*bH z.natAbs=z.natAbs):=if_neg h
theorem PB {z:Int} (h:¬ z < 0):aY.re z=0:=if_neg h
theorem aen {z:Int} (h:z < 0):aY.rt z=0:=if_pos h
theorem aeo {z:Int} (h:z < 0):aY.rx z=false:=if_pos h
theorem aem {z:Int} (h:z < 0):aY.re z=2:=if_pos h
theorem ZF (m:Nat):256 ^ m=2 ^ (8*m):=by rw [Nat.pow_mul]
theorem aa5 (a:Nat):bH a≤a:=by
 have h:=(Eb a).1
 rcases Nat.eq_zero_or_pos (bH a) with G | G
 ·omega
 ·exact Nat.le_trans (Nat.le_mul_of_pos_left _ G) h
theorem SS (y x:Nat):aa.cmp y x=0↔y=x:=by
 show cu y x=0↔_
 unfold cu
 split <;> (try split) <;> omega
theorem aa4 (s:ByteArray) (b3:s.size≤68719476736) (bx:aa.vs s≠0):aG Tryz.prog ⟨nn aa,az,wA nC lJ aq⟩ 10 10 123 [.agg [.val (.bool false), .val (.string s)]]=some (.tup [aa.int (bH (aa.vs s):Nat), .val (.bool (decide (bH (aa.vs s)*bH (aa.vs s)=aa.vs s))), .val (.int .i64 0)]):=by
 have G:=Ec aa nC lJ false s
 have hb:=oG s
 have Z:=oZ (aa.vs s)
 have aE:aa.vs s < 2 ^ (8*s.size):=by rw [← ZF];exact k9 s
 have b6:=BC _ _ aE
 have bD:aa.vs s < 2 ^ aa.bl (aa.vs s):=(lh (aa.vs s)).1
 have er:rowOf (aa.len (aa.vs s)) (aa.row (aa.vs s))=toL (aa.vs s):=lO _
 have J:okB (aa.len (aa.vs s)) (aa.row (aa.vs s))=true:=jM _
 have ab:((aa.len (aa.vs s):Nat):Int)=0↔aa.vs s=0:=x9 _
 have b0:(toL (aa.vs s)).length≤1099511627776:=Nat.le_trans Z (by omega)
 rw [show aa.ok s=true from decide_eq_true (by omega),dF (fun e=>bx (ab.1 e))] at G
 simp only [my] at G
 have U:aa.can (aa.len (aa.vs s)) (aa.row (aa.vs s))=true:=wY (by omega)
 rw [U,er,J] at G
 clear er J ab hb Z aE U
 generalize aa.vs s=a at*
 generalize aa.bl a=l at*
 have e1:((l:Int)+1).tdiv 2=(((l+1) / 2:Nat):Int):=rfl
 rw [e1] at G
 have b4:l≤2*((l+1) / 2):=by omega
 have b5:(l+1) / 2≤274877906945:=by omega
 generalize (l+1) / 2=K at*
 have a6:(K:Int).tdiv 32=((K / 32:Nat):Int):=rfl
 have a7:(K:Int).tmod 32=((K % 32:Nat):Int):=rfl
 rw [a6,a7,Int.toNat_natCast,Int.toNat_natCast] at G
 have M:List.take (K / 32*1) (List.replicate (K / 32) (0:Int)) ++ [IntKind.u32.wrap (1*2 ^ min (K % 32) 32)]=toL (2 ^ K):=by
  rw [Nat.mul_one,List.take_of_length_le (by rw [List.length_replicate];exact Nat.le_refl _)]
  exact abY K (by omega)
 have O:(toL (2 ^ K)).length=K / 32+1:=by
  rw [← M,Nat.mul_one,List.take_of_length_le (by rw [List.length_replicate];exact Nat.le_refl _),List.length_append,List.length_replicate]
  rfl
 rw [M,O] at G
 have b1:a < 2 ^ K*2 ^ K:=by
  rw [← Nat.pow_add]
  exact Nat.lt_of_lt_of_le bD (Nat.pow_le_pow_right (by decide) (by omega))
 have a1:uZ (toL a) (toL (2 ^ K)) false (ByteArray.mk #[]):= ⟨a,2 ^ K,rfl,rfl,by omega,b0,by rw [O];omega,b1⟩
 obtain ⟨_,I⟩:=MR _ _ _ _ a1
 unfold um at I
 rw [cX] at I
 have b2:=Eb a
 have b7:=CW (aa5 a)
 have ch:=CW b2.1
 rw [Uv _ _ _ _ a1,I,aJ (show -9223372036854775808≤(l:Int)+1∧(l:Int)+1≤9223372036854775807 by omega),aJ (show -9223372036854775808≤(K:Int)∧(K:Int)≤9223372036854775807 by omega),aJ (show -9223372036854775808≤((K / 32:Nat):Int)∧((K / 32:Nat):Int)≤9223372036854775807 by omega),
  dT (show ((K / 32:Nat):Int)≤((K / 32:Nat):Int) by omega),dT (show (4:Int)*((K / 32:Nat):Int)≤281474976710656 by omega),dT (show ((K / 32:Nat):Int)≤9223372036854775807 by omega),dT (show K / 32*1≤(List.replicate (K / 32) (0:Int)).length by rw [List.length_replicate];omega),yT _ (by omega),dT (show K / 32+1=K / 32+1 from rfl),uf (n:=bH a) (by omega),nU (n:=bH a) (by omega)] at G
 simp only [mw,my] at G
 rw [wY (n:=bH a*bH a) (by omega),gI (n:=a) (by omega)] at G
 rw [G]
 refine congrArg some ?_
 show AV.tup [aa.int (bH a:Nat), .val (.bool (decide (aa.cmp (bH a*bH a) a=0))), .val (.int .i64 0)]=_
 rw [decide_eq_decide.2 (SS (bH a*bH a) a)]
theorem V1:Entry Tryz.prog 123 (FD aa aY):=by
 refine aZ (E:= ⟨nn aa,az,wA nC lJ aq⟩) (u:=10) (d:=10) Af (QC aC.none).ok mixed (by kernel_rfl) (fun args r h=> ?_)
 unfold FD at h
 split at h
 ·rename_i b s
  simp only [Option.some.injEq,Prod.mk.injEq] at h
  obtain ⟨J,rfl⟩:=h
  have J:s.size≤68719476736:=of_decide_eq_true J
  have M:((aa.len (aa.vs s):Nat):Int)=0↔aa.vs s=0:=x9 _
  have O:aa.ok s=true:=decide_eq_true (by omega)
  have Z:∀ k:Nat,aa.sg true k= -(k:Int):=fun k=>rfl
  have ab:∀ k:Nat,aa.sg false k=(k:Int):=fun k=>rfl
  have U:aa.val b s=aa.sg b (aa.vs s):=rfl
  rw [U]
  by_cases I:aa.vs s=0
  ·have G:=Ec aa nC lJ b s
   rw [O,dT (M.2 I)] at G
   rw [G,I]
   have z0:aa.sg b 0=0:=by cases b <;> rfl
   rw [z0,PC (by decide),PD (by decide),PB (by decide)]
   unfold Sg.int
   rw [show ((bH (0:Int).natAbs:Nat):Int)=0 from rfl,lA]
   rfl
  ·cases b
   ·rw [aa4 s J I,ab,PC (by omega),PD (by omega),PB (by omega),Int.natAbs_natCast]
   ·have G:=Ec aa nC lJ true s
    rw [O,dF (fun e=>I (M.1 e))] at G
    rw [G,Z,aen (by omega),aeo (by omega),aem (by omega)]
    unfold Sg.int
    rw [lA]
    rfl
 ·cases h
end
end Go.Proofs.YtamcpiicmfielaaGreat.L
