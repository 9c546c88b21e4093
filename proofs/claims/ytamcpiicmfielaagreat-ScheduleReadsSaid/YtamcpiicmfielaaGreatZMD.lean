import Derived.Test.YtamcpiicmfielaaGreatZL
import Derived.Test.YtamcpiicmfielaaGreatZMA
set_option linter.unusedVariables false
set_option linter.unusedSimpArgs false
namespace Go.Proofs.YtamcpiicmfielaaGreat.L
open Go Go.V Go.RowKit Go.Proofs.YtamcpiicmfielaaGreat.Sp
open Go.Proofs (Tryz.prog)
noncomputable section
structure Xg where
 sv:Int→Int
 sb:Int→Bool
 dq:Int→Int→Int
 dr:Int→Int→Int
 de:Int→Int
 gcd:Int→Int→Int
 rt:Int→Int
 rx:Int→Bool
 re:Int→Int
 pr:Int→ByteArray
 pv:ByteArray→Int
 pe:ByteArray→Int
 cj:ByteArray→Bool
 lH:ByteArray→Bool
def rB (j:Sg) (X:Xg) (args:List AV):Option (Bool×AV):=match args with | [.agg [.val (.bool b), .val (.string s)], .agg [.val (.bool c), .val (.string t)]]=>some (j.ok s&&j.ok t, .tup [j.int (X.dq (j.val b s) (j.val c t)),j.int (X.dr (j.val b s) (j.val c t)), .val (.int .i64 (X.de (j.val c t)))]) | _=>none
def yX (j:Sg) (X:Xg) (args:List AV):Option (Bool×AV):=match args with | [.agg [.val (.bool b), .val (.string s)], .agg [.val (.bool c), .val (.string t)]]=>some (j.ok s&&j.ok t,j.int (X.gcd (j.val b s) (j.val c t))) | _=>none
def FH (j:Sg) (X:Xg) (args:List AV):Option (Bool×AV):=match args with | [.agg [.val (.bool b), .val (.string s)]]=>some (X.cj s, .tup [j.int (X.rt (j.val b s)), .val (.bool (X.rx (j.val b s))), .val (.int .i64 (X.re (j.val b s)))]) | _=>none
end
end Go.Proofs.YtamcpiicmfielaaGreat.L
namespace Go.Proofs.YtamcpiicmfielaaGreat.L
open Go Go.V Go.RowKit Go.Proofs.YtamcpiicmfielaaGreat.Sp
open Go.Proofs (Tryz.prog)
noncomputable section
theorem pF (s:ByteArray):aG s s=true:=by unfold aG;exact beq_self_eq_true _
theorem lB:aa.ms 0=ByteArray.mk #[]:=by
 show az 0=_
 unfold az
 rw [toB_zero]
theorem ye:aa.ok (ByteArray.mk #[])=true:=by
 exact decide_eq_true (show (ByteArray.mk #[]).size≤8796093022208 by decide)
theorem Xi {E:Env} {g:FuncId} {args:List AV} {G:Array Value} (J:bb Tryz.prog E.C) (M:cL Tryz.prog E) (O:fH Tryz.prog g=true) {u d:Nat} (h:aD Tryz.prog E u d g args=some (.val (.bool true))) (W:World) (N:ao Tryz.prog cd (fun _=>False) W args bh G.toList):
  Calls Tryz.prog g G W fun e w'=>e= .returned (.bool true)∧Below W.heap.size W w':=by
 refine (p9 J M mixed O h (fun _=>False) W G (fun _ h=>h.elim) N).mono ?_
 rintro e w' ⟨y,rfl,I,j⟩
 have j:y= .bool true:=j
 exact ⟨by rw [j],I⟩
end
end Go.Proofs.YtamcpiicmfielaaGreat.L
namespace Go.Proofs.YtamcpiicmfielaaGreat.L
open Go Go.V Go.RowKit Go.Proofs.YtamcpiicmfielaaGreat.Sp Go.Proofs.YtamcpiicmfielaaGreat.F Go.Proofs.YtamcpiicmfielaaGreatW.PrintWords
open Go.Proofs (Tryz.prog)
noncomputable section
abbrev ga:List Bool:= [false,false,true]
def kp (s:ByteArray):List AV:=av 14 [(0, .val (.string s))]
def jA (s:ByteArray):Hp:= []
theorem RI:aJ Tryz.prog 160 ga=some (.loop (lb 160 ga)):=by kernel_rfl
theorem Ti:aJ Tryz.prog 160 (false :: ga)=some (lb 160 ga):=by kernel_rfl
theorem Nm (s:ByteArray):aN Tryz.prog bj 160 [0] (lb 160 ga) (false :: ga) (kp s) (jA s)=
  (bif decide ((0:Int) < (↑s.size:Int)) then (bif decide ((0:Int) < (↑s.size:Int)) then (bif decide (aR s (0:Nat)=(0:Int)) then (bif decide ((1:Int)≤(↑s.size:Int)) then some (.normal,av 14 [(0,(.val (.string (dC s (1:Nat) s.size))))], []) else none) else some ((.exit 0),av 14 [(0,(.val (.string s)))], [])) else none) else some ((.exit 0),av 14 [(0,(.val (.string s)))], [])):=by kernel_rfl
theorem Fa {s:ByteArray} {e:Ex} {T:List AV} {H:Hp} (h:aN Tryz.prog bj 160 [0] (lb 160 ga) (false :: ga) (kp s) (jA s)=some (e,T,H)):V.Ends Tryz.prog false 0 0 (lb 160 ga) (kp s) (jA s) e T H:=
 bw (aH _) aK mixed Ti h
def yy (s:ByteArray):Prop:=True
def DF (s:ByteArray) (r:ByteArray):Prop:=r=az (vS s)
theorem JC {s:ByteArray} {c:UInt8} {l:List UInt8} (h:s.data.toList=c :: l):aR s 0=(c.toNat:Int):=by unfold aR;rw [h];rfl
theorem OP {s:ByteArray} {c:UInt8} {l:List UInt8} (h:s.data.toList=c :: l):(dC s 1 s.size).data.toList=l:=by
 have j:s.size=l.length+1:=by
  have:s.size=s.data.toList.length:=by rw [Array.length_toList];rfl
  rw [this,h];rfl
 show ((s.data.toList.drop 1).take (s.size - 1))=l
 rw [h,j]
 simp
theorem lX (s:ByteArray):s.size=s.data.toList.length:=by rw [Array.length_toList];rfl
theorem NG:∀ (n:Nat) (s:ByteArray),s.size=n→aw Tryz.prog (lb 160 ga) (kp s) (jA s) (.exit 0) (kp (az (vS s))) (jA (az (vS s)))
 | 0,s,G=>by
  have j:s.data.toList= []:=List.length_eq_zero_iff.1 (by rw [← lX];exact G)
  have e:az (vS s)=s:=tH s (by rw [j];exact True.intro)
  rw [e]
  refine .last (Fa ?_) (by intro h;cases h)
  rw [Nm,dF (show ¬ (0:Int) < s.size by omega)]
  rfl
 | n+1,s,G=>by
  obtain ⟨c,l,j⟩:∃ c l,s.data.toList=c :: l:=by
   cases h:s.data.toList with
   | nil=>rw [lX,h] at G;simp at G
   | cons c l=>exact ⟨c,l,rfl⟩
  have J:=Nm s
  have M:=JC j
  rw [dT (show (0:Int) < s.size by omega),M] at J
  by_cases I:c=0
  ·have S:vS s=vS (dC s 1 s.size):=by
    unfold vS
    rw [OP j,j,la,I]
    simp
   rw [S]
   have O:(dC s 1 s.size).size=n:=by
    rw [lX,OP j]
    rw [lX,j] at G
    simpa using G
   refine .more (Fa ?_) (NG n _ O)
   rw [J,I,dT (show (((0:UInt8).toNat:Nat):Int)=0 from rfl),dT (show (1:Int)≤s.size by omega)]
   rfl
  ·have e:az (vS s)=s:=tH s (by rw [j];exact I)
   rw [e]
   refine .last (Fa ?_) (by intro h;cases h)
   have N:¬ ((c.toNat:Nat):Int)=0:=fun h=>I (UInt8.toNat_inj.1 (by simpa using h))
   rw [J,dF N]
   rfl
theorem Ye (s:ByteArray) (h:yy s):∃ r:ByteArray,aw Tryz.prog (lb 160 ga) (kp s) (jA s) (.exit 0) (kp r) (jA r)∧DF s r:= ⟨_,NG s.size s rfl,rfl⟩
def Gv (G:ByteArray→Bool) (j:ByteArray→ByteArray) (T:List AV) (H:Hp):Option (Bool×Ex×List AV×Hp):=
 match al T 0,H with
 | .val (.string s), []=>bif T.length==14 then some (G s, .exit 0,kp ((j s)),jA ((j s))) else none
 | _,_=>none
abbrev AG:Type:=ByteArray→Bool
abbrev An:Type:=ByteArray→ByteArray
def I5 (j:AG) (G:An) (L:aE):aE:=bp 0 160 ga [0] (Gv j G) L
def o7 (s:ByteArray):ByteArray:=Classical.epsilon fun ρ=>aw Tryz.prog (lb 160 ga) (kp s) (jA s) (.exit 0) (kp (ρ)) (jA (ρ))∧DF s ρ
theorem MF (s:ByteArray) (h:yy s):aw Tryz.prog (lb 160 ga) (kp s) (jA s) (.exit 0) (kp ((o7 s))) (jA ((o7 s)))∧DF s (o7 s):=Classical.epsilon_spec (Ye s h)
def xi (s:ByteArray):Bool:= @decide (yy s) (Classical.propDecidable _)
theorem Ui (s:ByteArray) (h:yy s):xi s=true:= @decide_eq_true _ (Classical.propDecidable _) h
theorem adJ (T:List AV) (H:Hp) (e:Ex) (G:List AV) (j:Hp) (h:Gv xi o7 T H=some (true,e,G,j)):V.Ends Tryz.prog false 0 0 (.loop (lb 160 ga)) T H e G j:=by
 unfold Gv at h
 split at h
 ·rename_i s N
  rw [Bool.cond_eq_ite] at h
  split at h
  ·rename_i I
   rw [beq_iff_eq] at I
   simp only [Option.some.injEq,Prod.mk.injEq,Bool.and_eq_true,decide_eq_true_eq] at h
   obtain ⟨k1,rfl,rfl,rfl⟩:=h
   have S:= @of_decide_eq_true _ (Classical.propDecidable _) k1
   refine Ends.pre (MF s S).1.ends (fun α B w D U O=>bm I (fun p J y M=> ?_) O)
   simp only [List.mem_cons,List.not_mem_nil,or_false] at J
   subst J
   ·rw [N] at M;exact M
  ·cases h
 ·cases h
theorem Qz {L:aE} (h:aB Tryz.prog L):aB Tryz.prog (I5 xi o7 L):=h.br RI adJ
def Hx (j:AG) (G:An):Env:= ⟨aF,ar,I5 j G aq⟩
theorem abk (j:AG) (G:An) (s:ByteArray):aD Tryz.prog (Hx j G) 10 10 160 [.val (.string s)]=
  (bif j s then some (.val (.string (G s))) else none):=by kernel_rfl
theorem qp:Entry Tryz.prog 160 (nY aa):=by
 refine aX (E:=Hx xi o7) (u:=10) (d:=10) (aH _) (Qz aB.none).ok mixed (by kernel_rfl) (fun args r h=> ?_)
 unfold nY at h
 split at h
 ·rename_i s
  cases h
  obtain ⟨_,j⟩:=MF s True.intro
  have j:o7 s=az (vS s):=j
  rw [abk,Ui _ True.intro,j]
  rfl
 ·cases h
def He (j:Sg):Env:= ⟨an 160 (nY j) aF,ar,aq⟩
theorem Si (j:Sg) (b:Bool) (s:ByteArray):aD Tryz.prog (He j) 10 10 130 [.agg [.val (.bool b), .val (.string s)]]=
  (bif decide ((0:Int) < (↑s.size:Int)) then (bif decide ((0:Int) < (↑s.size:Int)) then (bif !decide (aR s (0:Nat)=(0:Int)) then some (.agg [(.val (.bool b)),(.val (.string s))]) else (bif b then some (.agg [(.val (.bool (!aG (j.mg (j.vs s)) (ByteArray.mk #[])))),(.val (.string (j.mg (j.vs s))))]) else some (.agg [(.val (.bool false)),(.val (.string (j.mg (j.vs s))))]))) else none) else (bif b then some (.agg [(.val (.bool (!aG (j.mg (j.vs s)) (ByteArray.mk #[])))),(.val (.string (j.mg (j.vs s))))]) else some (.agg [(.val (.bool false)),(.val (.string (j.mg (j.vs s))))]))):=by kernel_rfl
def nU (j:Sg) (args:List AV):Option (Bool×AV):=match args with | [.agg [.val (.bool b), .val (.string s)]]=>some (true,j.int (j.val b s)) | _=>none
theorem cQ (z:Int):aa.ng z=decide (z < 0):=by
 rw [Bool.eq_iff_iff]
 show (enc z).1=true↔_
 unfold enc
 simp only [decide_eq_true_eq]
theorem QO (b:Bool) (s:ByteArray) (j:pZ s.data.toList) (M:b=true→s.data.toList≠ []):AV.agg [.val (.bool b), .val (.string s)]=aa.int (aa.val b s):=by
 have I:aa.ms (aa.val b s)=s:=by
  show az (aa.val b s).natAbs=s
  rw [← lf]
  exact tH s j
 have J:aa.ng (aa.val b s)=b:=by
  rw [cQ]
  have G:aa.val b s=if b=true then -(vS s:Int) else (vS s:Int):=rfl
  cases b with
  | true=>
   have N:0 < vS s:=Pc j (M rfl)
   rw [G,if_pos rfl,decide_eq_true_eq]
   omega
  | false=>
   rw [G,if_neg (by decide),decide_eq_false_iff_not]
   omega
 unfold Sg.int
 rw [I,J]
theorem sZ:Entry Tryz.prog 130 (nU aa):=by
 refine aX (E:=He aa) (u:=10) (d:=10) ((aH _).add qp) aK mixed (by kernel_rfl) (fun args r h=> ?_)
 unfold nU at h
 split at h
 ·rename_i b s
  cases h
  rw [Si]
  have N:aG (aa.mg (aa.vs s)) (ByteArray.mk #[])=decide (aa.vs s=0):=qH (vS s)
  have G:∀ b:Bool,AV.agg [.val (.bool (bif b then !decide (aa.vs s=0) else false)), .val (.string (aa.mg (aa.vs s)))]=aa.int (aa.val b s):=by
   intro b
   have U:AV.agg [.val (.bool (aa.ng (aa.val b s))), .val (.string (aa.ms (aa.val b s)))]=aa.int (aa.val b s):=rfl
   rw [← U]
   have O:aa.ms (aa.val b s)=aa.mg (aa.vs s):=by show az (aa.val b s).natAbs=_;rw [← lf];rfl
   have S:aa.ng (aa.val b s)=(bif b then !decide (aa.vs s=0) else false):=by
    have ab:aa.val b s=if b=true then -(aa.vs s:Int) else (aa.vs s:Int):=rfl
    rw [cQ,ab]
    cases b
    ·rw [if_neg (by decide)]
     exact decide_eq_false (by omega)
    ·rw [if_pos rfl]
     by_cases h:aa.vs s=0
     ·rw [decide_eq_true h];exact decide_eq_false (by omega)
     ·rw [decide_eq_false h];exact decide_eq_true (by omega)
   rw [O,S]
  by_cases j:(0:Int) < s.size
  ·obtain ⟨c,l,J⟩:∃ c l,s.data.toList=c :: l:=by
    cases h:s.data.toList with
    | nil=>rw [lX,h] at j;simp at j
    | cons c l=>exact ⟨c,l,rfl⟩
   have M:=JC J
   rw [dT j]
   by_cases I:c=0
   ·rw [M,I,dT (show (((0:UInt8).toNat:Nat):Int)=0 from rfl)]
    cases b
    ·exact congrArg some (G false)
    ·have:=G true
     rw [← N] at this
     exact congrArg some this
   ·have Z:¬ ((c.toNat:Nat):Int)=0:=fun h=>I (UInt8.toNat_inj.1 (by simpa using h))
    rw [M,dF Z]
    exact congrArg some (QO b s (by rw [J];exact I) (fun _=>by rw [J];simp))
  ·rw [dF j]
   cases b
   ·exact congrArg some (G false)
   ·have:=G true
    rw [← N] at this
    exact congrArg some this
 ·cases h
end
end Go.Proofs.YtamcpiicmfielaaGreat.L
namespace Go.Proofs.YtamcpiicmfielaaGreat.L
open Go Go.V Go.RowKit Go.Proofs.YtamcpiicmfielaaGreat.Sp Go.Proofs.YtamcpiicmfielaaGreat.F Go.Proofs.YtamcpiicmfielaaGreatW.PrintWords
open Go.Proofs (Tryz.prog)
noncomputable section
def zq (x y:Int):Int:=if y=0 then 0 else x.fdiv y
def zr (x y:Int):Int:=if y=0 then 0 else x.fmod y
def ze (y:Int):Int:=if y=0 then 10 else 0
def n9 (j:Sg):FuncId→List AV→Option (Bool×AV):=an 106 (vA j) (an 152 (yW j) (an 108 (y4 j) (an 69 (kB j) (an 153 (rK j) (an 75 (kA j) aF)))))
theorem zI:bb Tryz.prog (n9 aa):=((((((aH _).add xt).add Wa).add xu).add BU).add J7).add BS
theorem UG (j:Sg) (b c:Bool) (s t:ByteArray):letI J:=(j.num (j.len (j.vs s)) (j.row (j.vs s)) / j.num (j.len (j.vs t)) (j.row (j.vs t)));letI I:=(j.sg (bif true then !b==c else b==c) (j.num (j.len J) (j.row J)));letI M:=(j.num (j.len (j.vs s)) (j.row (j.vs s)) % j.num (j.len (j.vs t)) (j.row (j.vs t)));letI G:=(j.sg b (j.num (j.len M) (j.row M)));
  (aD Tryz.prog ⟨n9 j,ar,aq⟩ 10 10 115 [.agg [.val (.bool b), .val (.string s)], .agg [.val (.bool c), .val (.string t)]]=(bif j.ok t then (bif decide ((↑(j.len (j.vs t)):Int)=(0:Int)) then some (.tup [(.agg [(.val (.bool false)),(.val (.string (ByteArray.mk #[])))]),(.agg [(.val (.bool false)),(.val (.string (ByteArray.mk #[])))]),(.val (.int .i64 10))]) else (bif j.ok s then (bif j.can (j.len (j.vs s)) (j.row (j.vs s))&&j.can (j.len (j.vs t)) (j.row (j.vs t))&&j.aL (j.len (j.vs s)) (j.row (j.vs s))&&j.aL (j.len (j.vs t)) (j.row (j.vs t))&&decide ((0:Nat) < j.num (j.len (j.vs t)) (j.row (j.vs t))) then (bif j.bL (j.len J) (j.row J) then (bif j.bL (j.len M) (j.row M) then (bif !aG (j.ms G) (ByteArray.mk #[]) then (bif bif true then !b==c else b==c then (bif j.ok (j.ms I)&&j.ok (j.ms (1:Int)) then (bif j.ok (j.ms G)&&j.ok t then some (.tup [(.agg [(.val (.bool (j.ng (j.val (j.ng I) (j.ms I) - j.val (j.ng (1:Int)) (j.ms (1:Int)))))),(.val (.string (j.ms (j.val (j.ng I) (j.ms I) - j.val (j.ng (1:Int)) (j.ms (1:Int))))))]),(.agg [(.val (.bool (j.ng (j.val (j.ng G) (j.ms G)+j.val c t)))),(.val (.string (j.ms (j.val (j.ng G) (j.ms G)+j.val c t))))]),(.val (.int .i64 0))]) else none) else none) else some (.tup [(.agg [(.val (.bool (j.ng I))),(.val (.string (j.ms I)))]),(.agg [(.val (.bool (j.ng G))),(.val (.string (j.ms G)))]),(.val (.int .i64 0))])) else some (.tup [(.agg [(.val (.bool (j.ng I))),(.val (.string (j.ms I)))]),(.agg [(.val (.bool (j.ng G))),(.val (.string (j.ms G)))]),(.val (.int .i64 0))])) else none) else none) else none) else none)) else none)):=by kernel_rfl
abbrev fM:List Bool:= [false,false,true,true]
def j6 (j:List Int) (G:List Int) (I:Bool) (J:ByteArray):List AV:=av 28 [(4, .ptr 0 0),(5, .lst false 129 j.length (ai j)),(6, .lst false 129 G.length (ai G))]
def jq (I:List Int) (J:List Int) (j:Bool) (G:ByteArray):Hp:= [.row (.cells [.val (.bool j), .val (.string G)]) 81 .live]
theorem Rd:aJ Tryz.prog 114 fM=some (.loop (lb 114 fM)):=by kernel_rfl
theorem SP:aJ Tryz.prog 114 (false :: fM)=some (lb 114 fM):=by kernel_rfl
theorem aaL (G:Sg) (I:List Int) (j:List Int) (J:Bool) (M:ByteArray):aN Tryz.prog ⟨n9 G,ar,aq⟩ 114 [4,5,6] (lb 114 fM) (false :: fM) (j6 I j J M) (jq I j J M)=
  (bif decide ((0:Int) < (↑j.length:Int)) then (bif G.can I.length (ai I)&&G.can j.length (ai j)&&G.aL I.length (ai I)&&G.aL j.length (ai j)&&decide ((0:Nat) < G.num j.length (ai j)) then some (.normal,av 28 [(4,(.ptr 0 0)),(5,(.lst false 129 j.length (ai j))),(6,(.lst false 129 (G.len (G.num I.length (ai I) % G.num j.length (ai j))) (G.row (G.num I.length (ai I) % G.num j.length (ai j)))))], [(.row (.cells [(.val (.bool J)),(.val (.string M))]) 81 .live)]) else none) else some ((.exit 0),av 28 [(4,(.ptr 0 0)),(5,(.lst false 129 I.length (ai I))),(6,(.lst false 129 j.length (ai j)))], [(.row (.cells [(.val (.bool J)),(.val (.string M))]) 81 .live)])):=by kernel_rfl
theorem Ob {I:List Int} {J:List Int} {j:Bool} {G:ByteArray} {e:Ex} {T:List AV} {H:Hp} (h:aN Tryz.prog ⟨n9 aa,ar,aq⟩ 114 [4,5,6] (lb 114 fM) (false :: fM) (j6 I J j G) (jq I J j G)=some (e,T,H)):V.Ends Tryz.prog false 0 0 (lb 114 fM) (j6 I J j G) (jq I J j G) e T H:=
 bw zI aK mixed SP h
def ua (j G:List Int) (I:Bool) (J:ByteArray):Prop:=∃ a b:Nat,j=toL a∧G=toL b∧(toL a).length≤8796093022208∧(toL b).length≤8796093022208
def tR (j G:List Int) (I:Bool) (J:ByteArray) (r:List Int×List Int):Prop:=r.1=toL (Nat.gcd (vL j) (vL G))
theorem nJ {n:Nat} (h:(toL n).length≤8796093022208):aa.aL (toL n).length (ai (toL n))=true:=by
 show (okB (toL n).length (ai (toL n))&&decide ((toL n).length≤8796093022208))=true
 rw [jJ,decide_eq_true h];rfl
theorem CP {a b:Nat} (h:a≤b):(toL a).length≤(toL b).length:=kJ (Nat.lt_of_le_of_lt h (lz (Nat.le_refl _)))
theorem xT (n:Nat):((toL n).length:Int)=0↔n=0:=by
 constructor
 ·intro h
  exact (toL_nil_iff n).1 (List.length_eq_zero_iff.1 (by omega))
 ·intro h;subst h;rw [toL_zero];rfl
theorem WH (j:Bool) (G:ByteArray) (n:Nat):∀ a b:Nat,b=n→(toL a).length≤8796093022208→(toL b).length≤8796093022208→∃ r:List Int×List Int,aw Tryz.prog (lb 114 fM) (j6 (toL a) (toL b) j G) (jq (toL a) (toL b) j G) (.exit 0) (j6 r.1 r.2 j G) (jq r.1 r.2 j G)∧r.1=toL (Nat.gcd a b):=by
 induction n using Nat.strongRecOn with
 | _ n Z=>
  intro a b ab S J
  have I:=aaL aa (toL a) (toL b) j G
  simp only [mu] at I
  by_cases M:b=0
  ·subst M
   refine ⟨(toL a,toL 0), .last (Ob ?_) (by intro h;cases h),by rw [Nat.gcd_zero_right]⟩
   rw [I,dF (show ¬ (0:Int) < ((toL 0).length:Int) by rw [toL_zero];decide)]
   rfl
  ·have U:a % b < b:=Nat.mod_lt _ (by omega)
   have a0:=CP (Nat.le_of_lt U)
   obtain ⟨r,N,O⟩:=Z (a % b) (by omega) b (a % b) rfl J (by omega)
   refine ⟨r, .more (Ob ?_) N,by rw [O,Nat.gcd_comm b,← Nat.gcd_rec,Nat.gcd_comm]⟩
   have a1:=xT b
   rw [I,dT (show (0:Int) < ((toL b).length:Int) by omega),gx (by omega),gx (by omega),nJ S,nJ J,dT (show 0 < b by omega)]
   rfl
theorem XK (I J:List Int) (j:Bool) (G:ByteArray) (h:ua I J j G):∃ r:List Int×List Int,aw Tryz.prog (lb 114 fM) (j6 I J j G) (jq I J j G) (.exit 0) (j6 r.1 r.2 j G) (jq r.1 r.2 j G)∧tR I J j G r:=by
 obtain ⟨a,b,rfl,rfl,M,N⟩:=h
 unfold tR
 rw [cK,cK]
 exact WH j G b a b rfl M N
def FZ (S:List Int→List Int→Bool→ByteArray→Bool) (O:List Int→List Int→Bool→ByteArray→List Int×List Int) (T:List AV) (H:Hp):Option (Bool×Ex×List AV×Hp):=
 match al T 4,al T 5,al T 6,H with
 | .ptr 0 0, .lst false 129 M I, .lst false 129 N J, [.row (.cells [.val (.bool j), .val (.string G)]) 81 .live]=>bif T.length==28 then some (okB M I&&okB N J&&S (rowOf M I) (rowOf N J) j G, .exit 0,j6 ((O (rowOf M I) (rowOf N J) j G).1) ((O (rowOf M I) (rowOf N J) j G).2) j G,jq ((O (rowOf M I) (rowOf N J) j G).1) ((O (rowOf M I) (rowOf N J) j G).2) j G) else none
 | _,_,_,_=>none
abbrev Ip:Type:=List Int→List Int→Bool→ByteArray→Bool
abbrev HL:Type:=List Int→List Int→Bool→ByteArray→List Int×List Int
def AS (j:Ip) (G:HL) (L:aE):aE:=bp 0 114 fM [4,5,6] (FZ j G) L
def mB (I:List Int) (J:List Int) (j:Bool) (G:ByteArray):List Int×List Int:=Classical.epsilon fun ρ=>aw Tryz.prog (lb 114 fM) (j6 I J j G) (jq I J j G) (.exit 0) (j6 (ρ.1) (ρ.2) j G) (jq (ρ.1) (ρ.2) j G)∧tR I J j G ρ
theorem Mh (I:List Int) (J:List Int) (j:Bool) (G:ByteArray) (h:ua I J j G):aw Tryz.prog (lb 114 fM) (j6 I J j G) (jq I J j G) (.exit 0) (j6 ((mB I J j G).1) ((mB I J j G).2) j G) (jq ((mB I J j G).1) ((mB I J j G).2) j G)∧tR I J j G (mB I J j G):=Classical.epsilon_spec (XK I J j G h)
def sD (I:List Int) (J:List Int) (j:Bool) (G:ByteArray):Bool:= @decide (ua I J j G) (Classical.propDecidable _)
theorem TL (I:List Int) (J:List Int) (j:Bool) (G:ByteArray) (h:ua I J j G):sD I J j G=true:= @decide_eq_true _ (Classical.propDecidable _) h
theorem adf (T:List AV) (H:Hp) (e:Ex) (I:List AV) (G:Hp) (h:FZ sD mB T H=some (true,e,I,G)):V.Ends Tryz.prog false 0 0 (.loop (lb 114 fM)) T H e I G:=by
 unfold FZ at h
 split at h
 ·rename_i a3 N a4 O a5 a6 S U Z
  rw [Bool.cond_eq_ite] at h
  split at h
  ·rename_i J
   rw [beq_iff_eq] at J
   simp only [Option.some.injEq,Prod.mk.injEq,Bool.and_eq_true,decide_eq_true_eq] at h
   obtain ⟨⟨⟨k1,a0⟩,a1⟩,rfl,rfl,rfl⟩:=h
   have a2:= @of_decide_eq_true _ (Classical.propDecidable _) a1
   refine Ends.pre (Mh (rowOf a3 N) (rowOf a4 O) a5 a6 a2).1.ends (fun α B w D a7 ab=>bm J (fun p M y j=> ?_) ab)
   simp only [List.mem_cons,List.not_mem_nil,or_false] at M
   rcases M with rfl | rfl | rfl
   ·rw [S] at j;exact j
   ·rw [U] at j;rw [cc];exact cn bZ k1 j
   ·rw [Z] at j;rw [cc];exact cn bZ a0 j
  ·cases h
 ·cases h
theorem P6 {L:aE} (h:aB Tryz.prog L):aB Tryz.prog (AS sD mB L):=h.br Rd adf
theorem WJ (j:Sg) (I:Ip) (G:HL) (b c:Bool) (s t:ByteArray):aD Tryz.prog ⟨n9 j,ar,AS I G aq⟩ 10 10 114 [.agg [.val (.bool b), .val (.string s)], .agg [.val (.bool c), .val (.string t)]]=
  (bif j.ok s then (bif j.ok t then (bif okB (j.len (j.vs s)) (j.row (j.vs s))&&okB (j.len (j.vs t)) (j.row (j.vs t))&&I (rowOf (j.len (j.vs s)) (j.row (j.vs s))) (rowOf (j.len (j.vs t)) (j.row (j.vs t))) false (ByteArray.mk #[]) then (bif j.bL (G (rowOf (j.len (j.vs s)) (j.row (j.vs s))) (rowOf (j.len (j.vs t)) (j.row (j.vs t))) false (ByteArray.mk #[])).fst.length (ai (G (rowOf (j.len (j.vs s)) (j.row (j.vs s))) (rowOf (j.len (j.vs t)) (j.row (j.vs t))) false (ByteArray.mk #[])).fst) then some (.agg [(.val (.bool (j.ng (j.sg false (j.num (G (rowOf (j.len (j.vs s)) (j.row (j.vs s))) (rowOf (j.len (j.vs t)) (j.row (j.vs t))) false (ByteArray.mk #[])).fst.length (ai (G (rowOf (j.len (j.vs s)) (j.row (j.vs s))) (rowOf (j.len (j.vs t)) (j.row (j.vs t))) false (ByteArray.mk #[])).fst)))))),(.val (.string (j.ms (j.sg false (j.num (G (rowOf (j.len (j.vs s)) (j.row (j.vs s))) (rowOf (j.len (j.vs t)) (j.row (j.vs t))) false (ByteArray.mk #[])).fst.length (ai (G (rowOf (j.len (j.vs s)) (j.row (j.vs s))) (rowOf (j.len (j.vs t)) (j.row (j.vs t))) false (ByteArray.mk #[])).fst))))))]) else none) else none) else none) else none):=by kernel_rfl
end
end Go.Proofs.YtamcpiicmfielaaGreat.L
namespace Go.Proofs.YtamcpiicmfielaaGreat.L
open Go Go.V Go.RowKit Go.Proofs.YtamcpiicmfielaaGreat.Sp Go.Proofs.YtamcpiicmfielaaGreat.F Go.Proofs.YtamcpiicmfielaaGreatW.PrintWords
open Go.Proofs (Tryz.prog)
noncomputable section
theorem tu {x y q r:Int} (h:r+y*q=x) (j:(0≤r∧r < y)∨(y < r∧r≤0)):zq x y=q∧zr x y=r:=by
 unfold zq zr
 have G:y≠0:=by omega
 rw [if_neg G,if_neg G]
 rcases j with j | j
 ·exact (Int.fdiv_fmod_unique (by omega)).2 ⟨h,j⟩
 ·exact (Int.fdiv_fmod_unique' (by omega)).2 ⟨h,j⟩
theorem YG (z:Int):aG (aa.ms z) (ByteArray.mk #[])=decide (z=0):=by
 show aG (az z.natAbs) _=_
 rw [qH]
 exact decide_eq_decide.2 (by omega)
theorem UI (b c:Bool) (n m:Nat) (N:0 < m):zq (aa.sg b n) (aa.sg c m)=(if n % m≠0∧b≠c then aa.sg (!(b==c)) (n / m) - 1 else aa.sg (!(b==c)) (n / m))∧
  zr (aa.sg b n) (aa.sg c m)=(if n % m≠0∧b≠c then aa.sg b (n % m)+aa.sg c m else aa.sg b (n % m)):=by
 have S:=Nat.mod_lt n N
 have J:(n:Int)=(m:Int)*((n / m:Nat):Int)+((n % m:Nat):Int):=by
  rw [← Int.natCast_mul,← Int.natCast_add,Nat.div_add_mod]
 generalize n / m=Q at*
 generalize n % m=R at*
 have j:∀ k:Nat,aa.sg true k= -(k:Int):=fun k=>rfl
 have G:∀ k:Nat,aa.sg false k=(k:Int):=fun k=>rfl
 by_cases h:R≠0∧b≠c
 ·rw [if_pos h,if_pos h]
  have O:=h.1
  apply tu
  ·cases b <;> cases c <;> first | exact absurd rfl h.2 | (simp only [show (!(true==false))=true from rfl,show (!(false==true))=true from rfl,j,G,J];grind)
  ·cases b <;> cases c <;> first | exact absurd rfl h.2 | (simp only [j,G];omega)
 ·rw [if_neg h,if_neg h]
  apply tu
  ·cases b <;> cases c <;> (simp only [show (!(true==false))=true from rfl,show (!(false==true))=true from rfl,show (!(true==true))=false from rfl,show (!(false==false))=false from rfl,j,G,J];grind)
  ·have h':R=0∨b=c:=by
    rcases Nat.eq_zero_or_pos R with I | I
    ·exact Or.inl I
    ·exact Or.inr (Classical.byContradiction fun M=>h ⟨by omega,M⟩)
   rcases h' with h' | h'
   ·subst h'
    cases b <;> cases c <;> (simp only [j,G];omega)
   ·subst h'
    cases b <;> (simp only [j,G];omega)
theorem Po (b:Bool) (s:ByteArray):aa.val b s=aa.sg b (aa.vs s):=rfl
theorem Vo (X:Xg) (a5:X.dq=zq) (a6:X.dr=zr) (a4:X.de=ze):Entry Tryz.prog 115 (rB aa X):=by
 refine aX (E:= ⟨n9 aa,ar,aq⟩) (u:=10) (d:=10) zI aK mixed (by kernel_rfl) (fun args r h=> ?_)
 unfold rB at h
 split at h
 ·rename_i b s c t
  simp only [Option.some.injEq,Prod.mk.injEq,Bool.and_eq_true] at h
  obtain ⟨⟨S,M⟩,rfl⟩:=h
  rw [a5,a6,a4]
  have G:=UG aa b c s t
  simp only [mw,YG,dp] at G
  have U:((aa.len (aa.vs t):Nat):Int)=0↔aa.vs t=0:=xT _
  have b1:aa.val c t=aa.sg c (aa.vs t):=rfl
  by_cases J:aa.vs t=0
  ·have N:aa.val c t=0:=by rw [b1,J];cases c <;> rfl
   rw [M,dT (U.2 J)] at G
   rw [G,N]
   unfold zq zr ze
   rw [if_pos rfl,if_pos rfl,if_pos rfl]
   unfold Sg.int
   rw [lB]
   rfl
  ·have k1:=nI S
   have a7:=nI M
   have b2:=RW (aa.vs s) (aa.vs t)
   have b3:=RY (aa.vs s) (aa.vs t)
   have N:aa.val c t≠0:=by
    intro e;have:=lf c t;rw [e] at this;exact J this
   have a1:ze (aa.val c t)=0:=by unfold ze;rw [if_neg N]
   obtain ⟨a2,a3⟩:=UI b c (aa.vs s) (aa.vs t) (by omega)
   rw [S,M,dF (fun e=>J (U.1 e)),wO (by omega),wO (by omega),qR k1,qR a7,dT (show 0 < aa.vs t by omega),qP (by omega),qP (by omega)] at G
   rw [a1,Po b s,Po c t,a2,a3]
   rw [G]
   clear G
   have ab:∀ k:Nat,aa.sg true k= -(k:Int):=fun k=>rfl
   have a0:∀ k:Nat,aa.sg false k=(k:Int):=fun k=>rfl
   have Z:∀ b:Bool,(aa.sg b (aa.vs s % aa.vs t)=0)↔aa.vs s % aa.vs t=0:=by
    intro b
    cases b
    ·rw [a0];omega
    ·rw [ab];omega
   have O:∀ (b:Bool) (k:Nat),(aa.sg b k).natAbs=k:=by
    intro b k
    cases b
    ·rw [a0];omega
    ·rw [ab];omega
   by_cases I:aa.vs s % aa.vs t=0
   ·rw [dT ((Z b).2 I),if_neg (fun h=>h.1 I),if_neg (fun h=>h.1 I)]
    rfl
   ·rw [dF (fun e=>I ((Z b).1 e))]
    have bx:∀ b:Bool,aa.ok (aa.ms (aa.sg b (aa.vs s / aa.vs t)))=true:=fun b=>bA (by rw [O];omega)
    have bD:∀ b:Bool,aa.ok (aa.ms (aa.sg b (aa.vs s % aa.vs t)))=true:=fun b=>bA (by rw [O];omega)
    have b0:aa.ok (aa.ms 1)=true:=bA (by rw [show (1:Int).natAbs=1 from rfl];exact Nat.le_trans (ib (n:=1) (m:=1) (by decide)) (by decide))
    rw [bx,bD,b0]
    by_cases j:b=c
    ·rw [if_neg (fun h=>h.2 j),if_neg (fun h=>h.2 j)]
     subst j
     cases b <;> rfl
    ·rw [if_pos ⟨I,j⟩,if_pos ⟨I,j⟩]
     cases b <;> cases c <;> first | exact absurd rfl j | rfl
 ·cases h
theorem Vr (X:Xg) (O:X.gcd=fun x y=>(Nat.gcd x.natAbs y.natAbs:Int)):Entry Tryz.prog 114 (yX aa X):=by
 refine aX (E:= ⟨n9 aa,ar,AS sD mB aq⟩) (u:=10) (d:=10) zI (P6 aB.none).ok mixed (by kernel_rfl) (fun args r h=> ?_)
 unfold yX at h
 split at h
 ·rename_i b s c t
  simp only [Option.some.injEq,Prod.mk.injEq,Bool.and_eq_true] at h
  obtain ⟨⟨I,J⟩,rfl⟩:=h
  rw [O]
  have j:=WJ aa sD mB b c s t
  have k1:=nI I
  have Z:=nI J
  have l1:=oN (aa.vs s)
  have l2:=oN (aa.vs t)
  have er:∀ n:Nat,rowOf (aa.len n) (aa.row n)=toL n:=fun n=>lV n
  have N:∀ n:Nat,okB (aa.len n) (aa.row n)=true:=fun n=>jJ n
  simp only [er,N] at j
  have M:ua (toL (aa.vs s)) (toL (aa.vs t)) false (ByteArray.mk #[]):= ⟨_,_,rfl,rfl,Nat.le_trans l1 k1,Nat.le_trans l2 Z⟩
  obtain ⟨_,G⟩:=Mh _ _ _ _ M
  unfold tR at G
  rw [cK,cK] at G
  have ab:bs (Nat.gcd (aa.vs s) (aa.vs t))≤max (bs (aa.vs s)) (bs (aa.vs t)):=by
   rcases Nat.eq_zero_or_pos (aa.vs s) with e | e
   ·rw [e,Nat.gcd_zero_left];exact Nat.le_max_right _ _
   ·exact Nat.le_trans (du (Nat.gcd_le_left _ e)) (Nat.le_max_left _ _)
  have S:=oN (Nat.gcd (aa.vs s) (aa.vs t))
  have U:(toL (Nat.gcd (aa.vs s) (aa.vs t))).length≤17592186044416:=Nat.le_trans S (by omega)
  rw [I,J,TL _ _ _ _ M,G,tO U,mu] at j
  rw [j]
  refine congrArg some ?_
  show aa.int (Nat.gcd (aa.vs s) (aa.vs t):Nat)=_
  rw [lf b s,lf c t]
 ·cases h
def aZ:Xg where
 sv z:=if -9223372036854775808≤z∧z < 9223372036854775808 then z else 0
 sb z:=decide (-9223372036854775808≤z∧z < 9223372036854775808)
 dq:=zq
 dr:=zr
 de:=ze
 gcd x y:=(Nat.gcd x.natAbs y.natAbs:Int)
 rt z:=if z < 0 then 0 else (bF z.natAbs:Int)
 rx z:=if z < 0 then false else decide (bF z.natAbs*bF z.natAbs=z.natAbs)
 re z:=if z < 0 then 2 else 0
 pr x:=ByteArray.mk #[]
 pv s:=0
 pe s:=0
 cj s:=decide (s.size≤68719476736)
 lH s:=true
theorem J6:Entry Tryz.prog 115 (rB aa aZ):=Vo aZ rfl rfl rfl
theorem Vq:Entry Tryz.prog 114 (yX aa aZ):=Vr aZ rfl
theorem zqr {x y:Int} (h:y≠0):zr x y+y*zq x y=x∧(0 < y→0≤zr x y∧zr x y < y)∧(y < 0→y < zr x y∧zr x y≤0):=by
 unfold zr zq
 rw [if_neg h,if_neg h]
 rcases Int.lt_or_gt_of_ne h with j | j
 ·have:=(Int.fdiv_fmod_unique' (a:=x) j).1 ⟨rfl,rfl⟩
  exact ⟨this.1,fun h=>by omega,fun _=>this.2⟩
 ·have:=(Int.fdiv_fmod_unique (a:=x) j).1 ⟨rfl,rfl⟩
  exact ⟨this.1,fun _=>this.2,fun h=>by omega⟩
theorem R8 (x y:Int):bs (zq x y).natAbs≤bs x.natAbs+1:=by
 by_cases h:y=0
 ·unfold zq;rw [if_pos h];exact Nat.le_trans (ib (n:=(0:Int).natAbs) (m:=0) (by decide)) (Nat.zero_le _)
 ·obtain ⟨e,I,J⟩:=zqr (x:=x) h
  have O:(zq x y).natAbs≤x.natAbs+1:=by
   generalize zr x y=r at*
   generalize zq x y=q at*
   have Z:(y*q).natAbs=y.natAbs*q.natAbs:=Int.natAbs_mul y q
   rcases Nat.lt_or_ge (x.natAbs+1) q.natAbs with j | j
   ·have S:y.natAbs*(x.natAbs+2)≤y.natAbs*q.natAbs:=Nat.mul_le_mul_left _ j
    have U:1*x.natAbs≤y.natAbs*x.natAbs:=Nat.mul_le_mul_right _ (by omega)
    rw [Nat.mul_add] at S
    rcases Int.lt_or_gt_of_ne h with M | M
    ·have:=J M;omega
    ·have:=I M;omega
   ·exact j
  have:=sj x.natAbs 1
  have I:bs 1≤1:=ib (by decide)
  have J:=du O
  rcases Nat.eq_zero_or_pos x.natAbs with N | N
  ·rw [N] at O J ⊢
   have:bs (0+1)≤1:=I
   omega
  ·have j:1≤bs x.natAbs:=by
    rcases Nat.eq_zero_or_pos (bs x.natAbs) with G | G
    ·have:=ni x.natAbs
     rw [G] at this
     omega
    ·exact G
   omega
theorem Ch:ze 0=10:=if_pos rfl
theorem Ci {y:Int} (h:y≠0):ze y=0:=if_neg h
end
end Go.Proofs.YtamcpiicmfielaaGreat.L
namespace Go.Proofs.YtamcpiicmfielaaGreat.L
open Go Go.V Go.RowKit Go.Proofs.YtamcpiicmfielaaGreat.Sp Go.Proofs.YtamcpiicmfielaaGreat.F
open Go.Proofs (Tryz.prog)
noncomputable section
theorem zF:aa.val false (ByteArray.mk #[])=0:=of_eq_true (eq_true rfl)
theorem GU:aZ.dq=zq:=of_eq_true (eq_true rfl)
theorem Ps:aZ.de=ze:=of_eq_true (eq_true rfl)
theorem YO {x:Int} (h:0≤x):aa.ng x=false:=by
 show (enc x).1=false
 unfold enc
 simp only [decide_eq_false_iff_not]
 omega
theorem si {p q:Prop} [Decidable p] [Decidable q] (h:p↔q):(decide p==decide q)=true:=by
 rw [decide_eq_decide.2 h];exact beq_self_eq_true _
theorem wF {p q:Prop} [Decidable p] [Decidable q] (h:¬ (p↔q)):(decide p==decide q)=false:=by
 by_cases j:p <;> by_cases G:q
 ·exact absurd ⟨fun _=>G,fun _=>j⟩ h
 ·rw [decide_eq_true j,decide_eq_false G];rfl
 ·rw [decide_eq_false j,decide_eq_true G];rfl
 ·exact absurd ⟨fun k=>absurd k j,fun k=>absurd k G⟩ h
end
end Go.Proofs.YtamcpiicmfielaaGreat.L
namespace Go.Proofs.YtamcpiicmfielaaGreat.L
open Go Go.V Go.RowKit Go.Proofs.YtamcpiicmfielaaGreat.Sp Go.Proofs.YtamcpiicmfielaaGreat.F
open Go.Proofs (Tryz.prog)
noncomputable section
def zg (x y:Int):Int:=(Nat.gcd x.natAbs y.natAbs:Nat)
theorem Pt:aZ.gcd=zg:=of_eq_true (eq_true rfl)
theorem Bq (x y:Int):bs (zg x y).natAbs≤max (bs x.natAbs) (bs y.natAbs):=by
 unfold zg
 rw [Int.natAbs_natCast]
 rcases Nat.eq_zero_or_pos x.natAbs with e | e
 ·rw [e,Nat.gcd_zero_left];exact Nat.le_max_right _ _
 ·exact Nat.le_trans (du (Nat.gcd_le_left _ e)) (Nat.le_max_left _ _)
end
end Go.Proofs.YtamcpiicmfielaaGreat.L
namespace Go.Proofs.YtamcpiicmfielaaGreat.L
open Go Go.V Go.RowKit Go.Proofs.YtamcpiicmfielaaGreat.Sp Go.Proofs.YtamcpiicmfielaaGreat.F Go.Proofs.YtamcpiicmfielaaGreatW.PrintWords
open Go.Proofs (Tryz.prog)
noncomputable section
def m7 (j:Sg):FuncId→List AV→Option (Bool×AV):=an 106 (vA j) (an 152 (yW j) (an 118 (y5 j) (an 158 (zx j) (an 107 (vz j) (an 109 (zu j) (an 157 (FM j) (an 108 (y4 j) aF)))))))
theorem zU:bb Tryz.prog (m7 aa):=((((((((aH _).add BU).add V6).add Ko).add BQ).add Kq).add Ka).add J7).add BS
abbrev nK:List Bool:= [false,false,true,true,true,true,true,true]
def mT (j:List Int) (G:List Int) (I:Bool) (J:ByteArray):List AV:=av 56 [(2, .ptr 0 0),(5, .lst false 129 j.length (ai j)),(7, .lst false 129 G.length (ai G))]
def mq (I:List Int) (J:List Int) (j:Bool) (G:ByteArray):Hp:= [.row (.cells [.val (.bool j), .val (.string G)]) 81 .live]
theorem Th:aJ Tryz.prog 123 (false :: nK)=some (lb 123 nK):=by kernel_rfl
theorem aaT (j:Sg) (I:List Int) (G:List Int) (O:Bool) (S:ByteArray):letI N:=(j.num I.length (ai I) / j.num G.length (ai G));letI M:=(j.num G.length (ai G)+j.num (j.len N) (j.row N));letI J:=(j.num (j.len M) (j.row M) / (2:Nat));
  (aN Tryz.prog ⟨m7 j,ar,aq⟩ 123 [2,5,7] (lb 123 nK) (false :: nK) (mT I G O S) (mq I G O S)=(bif j.can I.length (ai I)&&j.can G.length (ai G)&&j.aL I.length (ai I)&&j.aL G.length (ai G)&&decide ((0:Nat) < j.num G.length (ai G)) then (bif j.aL G.length (ai G)&&j.aL (j.len N) (j.row N) then (bif j.bL (j.len M) (j.row M)&&true&&true then (bif j.can (j.len J) (j.row J)&&j.can G.length (ai G) then (bif decide ((0:Int)≤j.cmp (j.num (j.len J) (j.row J)) (j.num G.length (ai G))) then some ((.exit 0),av 56 [(2,(.ptr 0 0)),(5,(.lst false 129 I.length (ai I))),(7,(.lst false 129 G.length (ai G)))], [(.row (.cells [(.val (.bool O)),(.val (.string S))]) 81 .live)]) else some (.normal,av 56 [(2,(.ptr 0 0)),(5,(.lst false 129 I.length (ai I))),(7,(.lst false 129 (j.len J) (j.row J)))], [(.row (.cells [(.val (.bool O)),(.val (.string S))]) 81 .live)])) else none) else none) else none) else none)):=by kernel_rfl
theorem Ot {I:List Int} {J:List Int} {j:Bool} {G:ByteArray} {e:Ex} {T:List AV} {H:Hp} (h:aN Tryz.prog ⟨m7 aa,ar,aq⟩ 123 [2,5,7] (lb 123 nK) (false :: nK) (mT I J j G) (mq I J j G)=some (e,T,H)):V.Ends Tryz.prog false 0 0 (lb 123 nK) (mT I J j G) (mq I J j G) e T H:=
 bw zU aK mixed Th h
abbrev gM:List Bool:= [false,false,true,true,true,true,true,true]
def rk (j:List Int) (G:List Int) (I:Bool) (J:ByteArray):List AV:=av 56 [(2, .ptr 0 0),(5, .lst false 129 j.length (ai j)),(7, .sl false 129 1 0 G.length)]
def qB (J:List Int) (I:List Int) (j:Bool) (G:ByteArray):Hp:= [.row (.cells [.val (.bool j), .val (.string G)]) 81 .live, .row (.ints .u32 I) 129 .live]
theorem RH:aJ Tryz.prog 123 gM=some (.loop (lb 123 gM)):=by kernel_rfl
theorem Tf:aJ Tryz.prog 123 (false :: gM)=some (lb 123 gM):=by kernel_rfl
theorem aaS (j:Sg) (I:List Int) (G:List Int) (O:Bool) (S:ByteArray):letI N:=(j.num I.length (ai I) / j.num G.length (ai G));letI M:=(j.num G.length (ai G)+j.num (j.len N) (j.row N));letI J:=(j.num (j.len M) (j.row M) / (2:Nat));
  (aN Tryz.prog ⟨m7 j,ar,aq⟩ 123 [2,5,7] (lb 123 gM) (false :: gM) (rk I G O S) (qB I G O S)=(bif decide ((0:Nat)+G.length*(1:Nat)≤G.length) then (bif j.can I.length (ai I)&&j.can G.length (ai G)&&j.aL I.length (ai I)&&j.aL G.length (ai G)&&decide ((0:Nat) < j.num G.length (ai G)) then (bif decide ((0:Nat)+G.length*(1:Nat)≤G.length) then (bif j.aL G.length (ai G)&&j.aL (j.len N) (j.row N) then (bif j.bL (j.len M) (j.row M)&&true&&true then (bif decide ((0:Nat)+G.length*(1:Nat)≤G.length) then (bif j.can (j.len J) (j.row J)&&j.can G.length (ai G) then (bif decide ((0:Int)≤j.cmp (j.num (j.len J) (j.row J)) (j.num G.length (ai G))) then some ((.exit 0),av 56 [(2,(.ptr 0 0)),(5,(.lst false 129 I.length (ai I))),(7,(.sl false 129 1 0 G.length))], [(.row (.cells [(.val (.bool O)),(.val (.string S))]) 81 .live),(.row (.ints .u32 G) 129 .froz)]) else some (.normal,av 56 [(2,(.ptr 0 0)),(5,(.lst false 129 I.length (ai I))),(7,(.lst false 129 (j.len J) (j.row J)))], [(.row (.cells [(.val (.bool O)),(.val (.string S))]) 81 .live)])) else none) else none) else none) else none) else none) else none) else none)):=by kernel_rfl
theorem acv {I:List Int} {J:List Int} {j:Bool} {G:ByteArray} {e:Ex} {T:List AV} {H:Hp} (h:aN Tryz.prog ⟨m7 aa,ar,aq⟩ 123 [2,5,7] (lb 123 gM) (false :: gM) (rk I J j G) (qB I J j G)=some (e,T,H)):V.Ends Tryz.prog false 0 0 (lb 123 gM) (rk I J j G) (qB I J j G) e T H:=
 bw zU aK mixed Tf h
theorem BF (y x:Nat):0≤aa.cmp y x↔x≤y:=by
 show 0≤b9 y x↔_
 unfold b9
 split <;> (try split) <;> omega
theorem LV {n:Nat} (h:(toL n).length≤8796093022208):aa.aL (aa.len n) (aa.row n)=true:=nJ h
theorem LS {n:Nat} (h:(toL n).length≤17592186044416):aa.bL (aa.len n) (aa.row n)=true:=tO h
theorem wN {n:Nat} (h:(toL n).length≤17592186044416):aa.can (aa.len n) (aa.row n)=true:=gx h
theorem NF {a x:Nat} (I:(toL a).length≤1099511627776) (G:(toL x).length≤1099511627776):(toL (a / x)).length≤1099511627776∧(toL (x+a / x)).length≤2199023255554∧(toL ((x+a / x) / 2)).length≤2199023255554:=by
 have J:(toL (a / x)).length≤(toL a).length:=xV (Nat.div_le_self a x)
 have j:(toL (x+a / x)).length≤2199023255554:=Nat.le_trans (Xs G (show (toL (a / x)).length≤1099511627776 by omega)) (by omega)
 exact ⟨by omega,j,Nat.le_trans (xV (Nat.div_le_self _ 2)) j⟩
theorem abj (j:Bool) (G:ByteArray) (a:Nat) (a3:0 < a) (S:(toL a).length≤1099511627776) (n:Nat):∀ x:Nat,x=n→0 < x→(toL x).length≤1099511627776→a < (x+1)*(x+1)→
  aw Tryz.prog (lb 123 nK) (mT (toL a) (toL x) j G) (mq (toL a) (toL x) j G) (.exit 0) (mT (toL a) (toL (bF a)) j G) (mq (toL a) (toL (bF a)) j G):=by
 induction n using Nat.strongRecOn with
 | _ n a2=>
  intro x a4 J N U
  obtain ⟨a5,a6,a7⟩:=NF S N
  have I:=aaT aa (toL a) (toL x) j G
  simp only [mu,mw] at I
  rw [gx (n:=a) (by omega),gx (n:=x) (by omega),nJ (n:=a) (by omega),nJ (n:=x) (by omega),dT (show 0 < x from J),LV (n:=a / x) (by omega),LS (n:=x+a / x) (by omega),wN (n:=(x+a / x) / 2) (by omega)] at I
  by_cases M:x≤(x+a / x) / 2
  ·have ab:=YN J M
   have O:=Ee a
   have a0:x=bF a:=aaI ab U O.1 O.2
   rw [← a0]
   refine .last (Ot ?_) (by intro h;cases h)
   rw [I,dT ((BF _ _).2 M)]
   rfl
  ·have a1:0 < (x+a / x) / 2:=by
    rcases Nat.eq_zero_or_pos ((x+a / x) / 2) with h | h
    ·have:=x9 (a:=a) J
     rw [h] at this
     omega
    ·exact h
   have Z:=a2 ((x+a / x) / 2) (by omega) _ rfl a1 (Nat.le_trans (xV (show (x+a / x) / 2≤x by omega)) N) (x9 J)
   refine .more (Ot ?_) Z
   rw [I,dF (fun h=>M ((BF _ _).1 h))]
   rfl
def uJ (j G:List Int) (I:Bool) (J:ByteArray):Prop:=∃ a x:Nat,j=toL a∧G=toL x∧0 < a∧(toL a).length≤1099511627776∧(toL x).length≤1099511627776∧a < x*x
def tS (j J:List Int) (G:Bool) (I:ByteArray) (r:List Int):Prop:=r=toL (bF (vL j))
theorem Yd (I J:List Int) (j:Bool) (G:ByteArray) (h:uJ I J j G):∃ r:List Int,aw Tryz.prog (lb 123 gM) (rk I J j G) (qB I J j G) (.exit 0) (mT I r j G) (mq I r j G)∧tS I J j G r:=by
 obtain ⟨a,x,rfl,rfl,U,O,S,Z⟩:=h
 unfold tS
 rw [cK]
 have N:0 < x:=by
  rcases Nat.eq_zero_or_pos x with h | h
  ·subst h;omega
  ·exact h
 have a1:a / x < x:=Nat.div_lt_of_lt_mul Z
 obtain ⟨a2,a3,a4⟩:=NF O S
 have a0:0 < (x+a / x) / 2:=by
  rcases Nat.eq_zero_or_pos ((x+a / x) / 2) with h | h
  ·have:=x9 (a:=a) N
   rw [h] at this
   omega
  ·exact h
 have ab:=abj j G a U O _ ((x+a / x) / 2) rfl a0 (Nat.le_trans (xV (show (x+a / x) / 2≤x by omega)) S) (x9 N)
 refine ⟨toL (bF a), .more (acv ?_) ab,rfl⟩
 have M:=aaS aa (toL a) (toL x) j G
 simp only [mu,mw] at M
 rw [dT (show 0+(toL x).length*1≤(toL x).length by omega),gx (n:=a) (by omega),gx (n:=x) (by omega),nJ (n:=a) (by omega),nJ (n:=x) (by omega),dT (show 0 < x from N),LV (n:=a / x) (by omega),LS (n:=x+a / x) (by omega),wN (n:=(x+a / x) / 2) (by omega),dF (fun h=>absurd ((BF _ _).1 h) (by omega))] at M
 rw [M]
 rfl
def Gu (S:List Int→List Int→Bool→ByteArray→Bool) (N:List Int→List Int→Bool→ByteArray→List Int) (T:List AV) (H:Hp):Option (Bool×Ex×List AV×Hp):=
 match al T 2,al T 5,al T 7,H with
 | .ptr 0 0, .lst false 129 G j, .sl false 129 1 0 O, [.row (.cells [.val (.bool I), .val (.string J)]) 81 .live, .row (.ints .u32 M) 129 .live]=>bif T.length==56 then some (okB G j&&decide (O=M.length)&&S (rowOf G j) M I J, .exit 0,mT (rowOf G j) ((N (rowOf G j) M I J)) I J,mq (rowOf G j) ((N (rowOf G j) M I J)) I J) else none
 | _,_,_,_=>none
abbrev IG:Type:=List Int→List Int→Bool→ByteArray→Bool
abbrev H8:Type:=List Int→List Int→Bool→ByteArray→List Int
def wm (j:IG) (G:H8) (L:aE):aE:=bp 0 123 gM [2,5,7] (Gu j G) L
def lR (I:List Int) (J:List Int) (j:Bool) (G:ByteArray):List Int:=Classical.epsilon fun ρ=>aw Tryz.prog (lb 123 gM) (rk I J j G) (qB I J j G) (.exit 0) (mT I (ρ) j G) (mq I (ρ) j G)∧tS I J j G ρ
theorem ME (I:List Int) (J:List Int) (j:Bool) (G:ByteArray) (h:uJ I J j G):aw Tryz.prog (lb 123 gM) (rk I J j G) (qB I J j G) (.exit 0) (mT I ((lR I J j G)) j G) (mq I ((lR I J j G)) j G)∧tS I J j G (lR I J j G):=Classical.epsilon_spec (Yd I J j G h)
def nn (I:List Int) (J:List Int) (j:Bool) (G:ByteArray):Bool:= @decide (uJ I J j G) (Classical.propDecidable _)
theorem Uh (I:List Int) (J:List Int) (j:Bool) (G:ByteArray) (h:uJ I J j G):nn I J j G=true:= @decide_eq_true _ (Classical.propDecidable _) h
theorem adI (T:List AV) (H:Hp) (e:Ex) (I:List AV) (G:Hp) (h:Gu nn lR T H=some (true,e,I,G)):V.Ends Tryz.prog false 0 0 (.loop (lb 123 gM)) T H e I G:=by
 unfold Gu at h
 split at h
 ·rename_i a3 O a6 a4 a5 N S U Z
  rw [Bool.cond_eq_ite] at h
  split at h
  ·rename_i J
   rw [beq_iff_eq] at J
   simp only [Option.some.injEq,Prod.mk.injEq,Bool.and_eq_true,decide_eq_true_eq] at h
   obtain ⟨⟨⟨k1,a0⟩,a1⟩,rfl,rfl,rfl⟩:=h
   have a2:= @of_decide_eq_true _ (Classical.propDecidable _) a1
   refine Ends.pre (ME (rowOf a3 O) N a4 a5 a2).1.ends (fun α B w D N ab=>bm J (fun p M y j=> ?_) ab)
   simp only [List.mem_cons,List.not_mem_nil,or_false] at M
   rcases M with rfl | rfl | rfl
   ·rw [S] at j;exact j
   ·rw [U] at j;rw [cc];exact cn bZ k1 j
   ·rw [Z] at j;rw [← a0];exact j
  ·cases h
 ·cases h
theorem Qy {L:aE} (h:aB Tryz.prog L):aB Tryz.prog (wm nn lR L):=h.br RH adI
theorem Ef (j:Sg) (O:IG) (S:H8) (b:Bool) (s:ByteArray):letI J:=(rowOf (j.len (j.vs s)) (j.row (j.vs s)));letI I:=(((↑(j.bl (j.num (j.len (j.vs s)) (j.row (j.vs s)))):Int)+(1:Int)).tdiv (2:Int));letI N:=(List.take ((I.tdiv (32:Int)).toNat*(1:Nat)) (List.replicate (I.tdiv (32:Int)).toNat (0:Int)) ++ [IntKind.u32.wrap ((1:Int)*(2:Int) ^ min (I.tmod (32:Int)).toNat (32:Nat))]);letI G:=(S J N false (ByteArray.mk #[]));letI M:=(j.num G.length (ai G)*j.num G.length (ai G));
  (aD Tryz.prog ⟨m7 j,ar,wm O S aq⟩ 10 10 123 [.agg [.val (.bool b), .val (.string s)]]=(bif j.ok s then (bif decide ((↑(j.len (j.vs s)):Int)=(0:Int)) then some (.tup [(.agg [(.val (.bool false)),(.val (.string (ByteArray.mk #[])))]),(.val (.bool true)),(.val (.int .i64 0))]) else (bif b then some (.tup [(.agg [(.val (.bool false)),(.val (.string (ByteArray.mk #[])))]),(.val (.bool false)),(.val (.int .i64 2))]) else (bif j.can (j.len (j.vs s)) (j.row (j.vs s)) then (bif aj IntKind.i64 ((↑(j.bl (j.num (j.len (j.vs s)) (j.row (j.vs s)))):Int)+(1:Int)) then (bif aj IntKind.i64 I then (bif aj IntKind.i64 (I.tdiv (32:Int)) then (bif decide (I.tdiv (32:Int)≤I.tdiv (32:Int))&&decide ((4:Int)*I.tdiv (32:Int)≤(281474976710656:Int))&&decide (I.tdiv (32:Int)≤(9223372036854775807:Int)) then (bif decide ((I.tdiv (32:Int)).toNat*(1:Nat)≤(List.replicate (I.tdiv (32:Int)).toNat (0:Int)).length)&&cA Tryz.prog ((I.tdiv (32:Int)).toNat+(1:Nat)) (129:Nat)&&true then (bif okB (j.len (j.vs s)) (j.row (j.vs s))&&decide ((I.tdiv (32:Int)).toNat+(1:Nat)=N.length)&&O J N false (ByteArray.mk #[]) then (bif j.bL G.length (ai G) then (bif j.aL G.length (ai G)&&j.aL G.length (ai G) then (bif j.can (j.len M) (j.row M)&&j.can J.length (ai J) then some (.tup [(.agg [(.val (.bool (j.ng (j.sg false (j.num G.length (ai G)))))),(.val (.string (j.ms (j.sg false (j.num G.length (ai G))))))]),(.val (.bool (decide (j.cmp (j.num (j.len M) (j.row M)) (j.num J.length (ai J))=(0:Int))))),(.val (.int .i64 0))]) else none) else none) else none) else none) else none) else none) else none) else none) else none) else none))) else none)):=by kernel_rfl
end
end Go.Proofs.YtamcpiicmfielaaGreat.L
namespace Go.Proofs.YtamcpiicmfielaaGreat.L
open Go Go.V Go.RowKit Go.Proofs.YtamcpiicmfielaaGreat.Sp Go.Proofs.YtamcpiicmfielaaGreat.F Go.Proofs.YtamcpiicmfielaaGreatW.PrintWords
open Go.Proofs (Tryz.prog)
noncomputable section
theorem Pw {z:Int} (h:¬ z < 0):aZ.rt z=(bF z.natAbs:Int):=if_neg h
theorem Px {z:Int} (h:¬ z < 0):aZ.rx z=decide (bF z.natAbs*bF z.natAbs=z.natAbs):=if_neg h
theorem Pv {z:Int} (h:¬ z < 0):aZ.re z=0:=if_neg h
theorem aes {z:Int} (h:z < 0):aZ.rt z=0:=if_pos h
theorem aet {z:Int} (h:z < 0):aZ.rx z=false:=if_pos h
theorem aer {z:Int} (h:z < 0):aZ.re z=2:=if_pos h
theorem Zd (m:Nat):256 ^ m=2 ^ (8*m):=by rw [Nat.pow_mul]
theorem aaH (a:Nat):bF a≤a:=by
 have h:=(Ee a).1
 rcases Nat.eq_zero_or_pos (bF a) with j | j
 ·omega
 ·exact Nat.le_trans (Nat.le_mul_of_pos_left _ j) h
theorem SB (y x:Nat):aa.cmp y x=0↔y=x:=by
 show b9 y x=0↔_
 unfold b9
 split <;> (try split) <;> omega
theorem aaG (s:ByteArray) (bx:s.size≤68719476736) (a2:aa.vs s≠0):aD Tryz.prog ⟨m7 aa,ar,wm nn lR aq⟩ 10 10 123 [.agg [.val (.bool false), .val (.string s)]]=some (.tup [aa.int (bF (aa.vs s):Nat), .val (.bool (decide (bF (aa.vs s)*bF (aa.vs s)=aa.vs s))), .val (.int .i64 0)]):=by
 have j:=Ef aa nn lR false s
 have a3:=ot s
 have O:=oN (aa.vs s)
 have U:aa.vs s < 2 ^ (8*s.size):=by rw [← Zd];exact ld s
 have b1:=Bn _ _ U
 have a4:aa.vs s < 2 ^ aa.bl (aa.vs s):=(lh (aa.vs s)).1
 have er:rowOf (aa.len (aa.vs s)) (aa.row (aa.vs s))=toL (aa.vs s):=lV _
 have I:okB (aa.len (aa.vs s)) (aa.row (aa.vs s))=true:=jJ _
 have S:((aa.len (aa.vs s):Nat):Int)=0↔aa.vs s=0:=xT _
 have a5:(toL (aa.vs s)).length≤1099511627776:=Nat.le_trans O (by omega)
 rw [show aa.ok s=true from decide_eq_true (by omega),dF (fun e=>a2 (S.1 e))] at j
 simp only [mw] at j
 have N:aa.can (aa.len (aa.vs s)) (aa.row (aa.vs s))=true:=wN (by omega)
 rw [N,er,I] at j
 clear er I S a3 O U N
 generalize aa.vs s=a at*
 generalize aa.bl a=l at*
 have ab:((l:Int)+1).tdiv 2=(((l+1) / 2:Nat):Int):=rfl
 rw [ab] at j
 have bD:l≤2*((l+1) / 2):=by omega
 have b0:(l+1) / 2≤274877906945:=by omega
 generalize (l+1) / 2=K at*
 have a0:(K:Int).tdiv 32=((K / 32:Nat):Int):=rfl
 have a1:(K:Int).tmod 32=((K % 32:Nat):Int):=rfl
 rw [a0,a1,Int.toNat_natCast,Int.toNat_natCast] at j
 have J:List.take (K / 32*1) (List.replicate (K / 32) (0:Int)) ++ [IntKind.u32.wrap (1*2 ^ min (K % 32) 32)]=toL (2 ^ K):=by
  rw [Nat.mul_one,List.take_of_length_le (by rw [List.length_replicate];exact Nat.le_refl _)]
  exact ab0 K (by omega)
 have M:(toL (2 ^ K)).length=K / 32+1:=by
  rw [← J,Nat.mul_one,List.take_of_length_le (by rw [List.length_replicate];exact Nat.le_refl _),List.length_append,List.length_replicate]
  rfl
 rw [J,M] at j
 have a6:a < 2 ^ K*2 ^ K:=by
  rw [← Nat.pow_add]
  exact Nat.lt_of_lt_of_le a4 (Nat.pow_le_pow_right (by decide) (by omega))
 have Z:uJ (toL a) (toL (2 ^ K)) false (ByteArray.mk #[]):= ⟨a,2 ^ K,rfl,rfl,by omega,a5,by rw [M];omega,a6⟩
 obtain ⟨_,G⟩:=ME _ _ _ _ Z
 unfold tS at G
 rw [cK] at G
 have a7:=Ee a
 have b2:=CP (aaH a)
 have b3:=CP a7.1
 rw [Uh _ _ _ _ Z,G,aO (show -9223372036854775808≤(l:Int)+1∧(l:Int)+1≤9223372036854775807 by omega),aO (show -9223372036854775808≤(K:Int)∧(K:Int)≤9223372036854775807 by omega),aO (show -9223372036854775808≤((K / 32:Nat):Int)∧((K / 32:Nat):Int)≤9223372036854775807 by omega),
  dT (show ((K / 32:Nat):Int)≤((K / 32:Nat):Int) by omega),dT (show (4:Int)*((K / 32:Nat):Int)≤281474976710656 by omega),dT (show ((K / 32:Nat):Int)≤9223372036854775807 by omega),dT (show K / 32*1≤(List.replicate (K / 32) (0:Int)).length by rw [List.length_replicate];omega),yI _ (by omega),dT (show K / 32+1=K / 32+1 from rfl),tO (n:=bF a) (by omega),nJ (n:=bF a) (by omega)] at j
 simp only [mu,mw] at j
 rw [wN (n:=bF a*bF a) (by omega),gx (n:=a) (by omega)] at j
 rw [j]
 refine congrArg some ?_
 show AV.tup [aa.int (bF a:Nat), .val (.bool (decide (aa.cmp (bF a*bF a) a=0))), .val (.int .i64 0)]=_
 rw [decide_eq_decide.2 (SB (bF a*bF a) a)]
theorem V2:Entry Tryz.prog 123 (FH aa aZ):=by
 refine aX (E:= ⟨m7 aa,ar,wm nn lR aq⟩) (u:=10) (d:=10) zU (Qy aB.none).ok mixed (by kernel_rfl) (fun args r h=> ?_)
 unfold FH at h
 split at h
 ·rename_i b s
  simp only [Option.some.injEq,Prod.mk.injEq] at h
  obtain ⟨I,rfl⟩:=h
  have I:s.size≤68719476736:=of_decide_eq_true I
  have J:((aa.len (aa.vs s):Nat):Int)=0↔aa.vs s=0:=xT _
  have M:aa.ok s=true:=decide_eq_true (by omega)
  have O:∀ k:Nat,aa.sg true k= -(k:Int):=fun k=>rfl
  have S:∀ k:Nat,aa.sg false k=(k:Int):=fun k=>rfl
  have N:aa.val b s=aa.sg b (aa.vs s):=rfl
  rw [N]
  by_cases G:aa.vs s=0
  ·have j:=Ef aa nn lR b s
   rw [M,dT (J.2 G)] at j
   rw [j,G]
   have z0:aa.sg b 0=0:=by cases b <;> rfl
   rw [z0,Pw (by decide),Px (by decide),Pv (by decide)]
   unfold Sg.int
   rw [show ((bF (0:Int).natAbs:Nat):Int)=0 from rfl,lB]
   rfl
  ·cases b
   ·rw [aaG s I G,S,Pw (by omega),Px (by omega),Pv (by omega),Int.natAbs_natCast]
   ·have j:=Ef aa nn lR true s
    rw [M,dF (fun e=>G (J.1 e))] at j
    rw [j,O,aes (by omega),aet (by omega),aer (by omega)]
    unfold Sg.int
    rw [lB]
    rfl
 ·cases h
end
end Go.Proofs.YtamcpiicmfielaaGreat.L
