import Derived.Test.YtamcpiicmfielaaGreatZV2
import Derived.Test.YtamcpiicmfielaaGreatZQA
import Derived.Test.YtamcpiicmfielaaGreatZUA
import Derived.Test.YtamcpiicmfielaaGreatZMD
set_option linter.unusedVariables false
set_option linter.unusedSimpArgs false
namespace Go.Proofs.YtamcpiicmfielaaGreat.L
open Go Go.V Go.RowKit Go.Proofs.YtamcpiicmfielaaGreat.Sp
open Go.Proofs (Tryz.prog)
noncomputable section
abbrev BA:Type:=ByteArray
structure Hg where
 gr:BA→BA→Bool
 kv:Bool→BA→BA→Bool→BA→BA→Int
 ok:BA→BA→Bool
 ds:Rat→Rat→Rat→Rat→Rat
 st:Rat→Rat→Int→Int
 yw:BA→BA→Bool
 pos:Rat→Rat→Bool
def p1 (f:Bool→BA→BA→Option (Bool×AV)):TF:=fun args=>match args with
 | [.agg [.val (.bool b), .val (.string n), .val (.string d)]]=>f b n d
 | _=>none
def p2 (f:Bool→BA→BA→Bool→BA→BA→Option (Bool×AV)):TF:=fun args=>match args with
 | [.agg [.val (.bool b), .val (.string n), .val (.string d), .val (.bool c), .val (.string m), .val (.string e)]]=>f b n d c m e
 | _=>none
def p3 (f:Bool→BA→BA→Bool→BA→BA→Bool→BA→BA→Bool→BA→BA→Option (Bool×AV)):TF:=fun args=>match args with
 | [.agg [.val (.bool b), .val (.string n), .val (.string d), .val (.bool c), .val (.string m), .val (.string e)], .agg [.val (.bool G), .val (.string n2), .val (.string I), .val (.bool c2), .val (.string m2), .val (.string J)]]=>f b n d c m e G n2 I c2 m2 J
 | _=>none
def p4 (f:Bool→BA→BA→Bool→BA→BA→Int→Option (Bool×AV)):TF:=fun args=>match args with
 | [.agg [.val (.bool b), .val (.string n), .val (.string d)], .agg [.val (.bool c), .val (.string m), .val (.string e)], .val (.int .i64 g)]=>f b n d c m e g
 | _=>none
def zt (K:Hg):TF:=p1 fun b n d=>some (true, .val (.bool (K.gr n d)))
def sa (K:Hg):TF:=p2 fun b n d c m e=>some (K.ok n d&&K.ok m e, .val (.int .i64 (K.kv b n d c m e)))
def upN (q:Nat):Nat:=if bH q*bH q=q then bH q else bH q+1
def stN (x s:Rat) (g:Int):Int:=let q:=(x*((g:Rat)*(g:Rat)) / (s*s)).ceil;max 1 ((upN q.natAbs:Nat):Int)
def bd:Hg where
 gr n d:=decide (12 < n.size) ||decide (12 < d.size)
 kv b n d c m e:=bif decide (ad.ck b n d=0)&&decide (ad.ck c m e=0) then 0 else 1
 ok n d:=decide (n.size≤12)&&decide (d.size≤12)
 ds x y u v:=(x - u)*(x - u)+(y - v)*(y - v)
 st:=stN
 yw n d:=decide (n.size≤200)&&decide (d.size≤200)
 pos x s:=decide (0≤x)&&decide (0 < s)
end
end Go.Proofs.YtamcpiicmfielaaGreat.L
namespace Go.Proofs.YtamcpiicmfielaaGreat.L
open Go Go.V Go.RowKit Go.Proofs.YtamcpiicmfielaaGreat.Sp
open Go.Proofs (Tryz.prog)
noncomputable section
abbrev w3 (b:Bool) (n d:BA):AV:= .agg [.val (.bool b), .val (.string n), .val (.string d)]
abbrev w6 (b:Bool) (n d:BA) (c:Bool) (m e:BA):AV:= .agg [.val (.bool b), .val (.string n), .val (.string d), .val (.bool c), .val (.string m), .val (.string e)]
def wh (G:Qg):FuncId→TF:=au 31 (r8 G) (au 30 (vQ G) (au 29 (pV G) aM))
theorem WJ (b:Bool) (n d:BA):aG Tryz.prog ⟨aM,az,aq⟩ 10 10 8 [w3 b n d]=
  (bif decide (12 < (↑(ByteArray.size n):Int)) then some (.val (.bool true)) else some (.val (.bool (decide (12 < (↑(ByteArray.size d):Int)))))):=by kernel_rfl
theorem aeg (G:Qg) (b c:Bool) (n d m e:BA):aG Tryz.prog ⟨au 49 (oe G) aM,az,aq⟩ 10 10 57 [w6 b n d c m e]=
  (bif G.ok n d then (bif !decide (G.ck b n d=0) then some (.val (.int .i64 1)) else (bif G.ok m e then (bif !decide (G.ck c m e=0) then some (.val (.int .i64 1)) else some (.val (.int .i64 0))) else none)) else none):=by kernel_rfl
theorem abw (G:Qg) (b c:Bool) (n d m e:BA):aG Tryz.prog ⟨au 51 (nk G fun b n d=> .val (.int .i64 (G.ck b n d))) aM,az,aq⟩ 10 10 58 [w6 b n d c m e]=
  (bif G.br n d then (bif !decide (G.ck b n d=0) then some (.val (.int .i64 1)) else (bif G.br m e then (bif !decide (G.ck c m e=0) then some (.val (.int .i64 1)) else some (.val (.int .i64 0))) else none)) else none):=by kernel_rfl
end
end Go.Proofs.YtamcpiicmfielaaGreat.L
namespace Go.Proofs.YtamcpiicmfielaaGreat.L
open Go Go.V Go.RowKit Go.Proofs.YtamcpiicmfielaaGreat.Sp
open Go.Proofs (Tryz.prog)
noncomputable section
theorem pd {n d:BA} (h:bd.ok n d=true):n.size≤12∧d.size≤12:=by
 have G:(decide (n.size≤12)&&decide (d.size≤12))=true:=h
 rwa [Bool.and_eq_true,decide_eq_true_eq,decide_eq_true_eq] at G
theorem mz {n d:BA} (h:bd.ok n d=true):ad.ok n d=true:=DS (by have:=pd h;omega) (by have:=pd h;omega)
theorem LV {n d:BA} (h:bd.ok n d=true):ad.br n d=true:=Na (by have:=pd h;omega) (by have:=pd h;omega)
theorem nP {b:Bool} {n d:BA} (h:bd.ok n d=true):bk (ad.qv b n d)≤12:=by
 have:=vK b n d
 have:=pd h
 omega
theorem xC:Entry Tryz.prog 8 (zt bd):=by
 refine aZ (E:= ⟨aM,az,aq⟩) (u:=10) (d:=10) (aK _) aO mixed (by kernel_rfl) (fun args r h=> ?_)
 unfold zt p1 at h
 split at h
 ·rename_i b n d
  simp only [Option.some.injEq,Prod.mk.injEq,true_and] at h
  subst h
  rw [WJ]
  have e1:decide ((12:Int) < (n.size:Int))=decide (12 < n.size):=decide_eq_decide.2 (by omega)
  have G:decide ((12:Int) < (d.size:Int))=decide (12 < d.size):=decide_eq_decide.2 (by omega)
  have I:bd.gr n d=(decide (12 < n.size) ||decide (12 < d.size)):=rfl
  rw [e1,G,I]
  cases decide (12 < n.size) <;> rfl
 ·cases h
theorem CP (b c:Bool) (n d m e:BA):bd.kv b n d c m e=bif decide (ad.ck b n d=0)&&decide (ad.ck c m e=0) then 0 else 1:=rfl
theorem V7:Entry Tryz.prog 57 (sa bd):=by
 refine aZ (E:= ⟨au 49 (oe ad) aM,az,aq⟩) (u:=10) (d:=10) ((aK _).add qI) aO mixed (by kernel_rfl) (fun args r h=> ?_)
 unfold sa p2 at h
 split at h
 ·rename_i b n d c m e
  simp only [Option.some.injEq,Prod.mk.injEq,Bool.and_eq_true] at h
  obtain ⟨⟨G,I⟩,rfl⟩:=h
  rw [aeg,mz G,mz I,CP]
  cases decide (ad.ck b n d=0) <;> cases decide (ad.ck c m e=0) <;> rfl
 ·cases h
theorem VZ:Entry Tryz.prog 58 (sa bd):=by
 refine aZ (E:= ⟨au 51 (nk ad fun b n d=> .val (.int .i64 (ad.ck b n d))) aM,az,aq⟩) (u:=10) (d:=10) ((aK _).add J6) aO mixed (by kernel_rfl) (fun args r h=> ?_)
 unfold sa p2 at h
 split at h
 ·rename_i b n d c m e
  simp only [Option.some.injEq,Prod.mk.injEq,Bool.and_eq_true] at h
  obtain ⟨⟨G,I⟩,rfl⟩:=h
  rw [abw,LV G,LV I,CP]
  cases decide (ad.ck b n d=0) <;> cases decide (ad.ck c m e=0) <;> rfl
 ·cases h
theorem GX:bf Tryz.prog (wh ad):=(((aK _).add xE).add B9).add xF
theorem acW {g:Int} (h:1≤g∧g≤1000):bk (g:Rat)≤2:=by
 have G:=acX g
 have I:bs g.natAbs≤2:=gH (by have:(256:Nat) ^ 2=65536:=rfl;omega)
 omega
end
end Go.Proofs.YtamcpiicmfielaaGreat.L
namespace Go.Proofs.YtamcpiicmfielaaGreat.L
open Go Go.V Go.RowKit Go.Proofs.YtamcpiicmfielaaGreat.Sp
open Go.Proofs (Tryz.prog)
noncomputable section
theorem Wx (g:Int):ad.fr g 1=(g:Rat):=Wt g
theorem pj {z:Int} (h:bs z.natAbs≤1000):aa.ok (aa.ms z)=true:=bS (by omega)
end
end Go.Proofs.YtamcpiicmfielaaGreat.L
namespace Go.Proofs.YtamcpiicmfielaaGreat.L
open Go Go.V Go.RowKit Go.Proofs.YtamcpiicmfielaaGreat.Sp
open Go.Proofs (Tryz.prog)
noncomputable section
def wo (K:Hg):Env:= ⟨au 8 (gR (zt K)) aM,az,aq⟩
def gV (ps:List Value) (j:Nat):Bool:=aL (ps.getD (j*6+0) undef) (ps.getD (j*6+1) undef) (ps.getD (j*6+2) undef)&&aL (ps.getD (j*6+3) undef) (ps.getD (j*6+4) undef) (ps.getD (j*6+5) undef)
def tL (ps:List Value) (j:Nat):Bool:=bd.gr (ag (ps.getD (j*6+1) undef)) (ag (ps.getD (j*6+2) undef))
def xU (ps:List Value) (j:Nat):Bool:=bd.gr (ag (ps.getD (j*6+4) undef)) (ag (ps.getD (j*6+5) undef))
theorem C9 {ps:List Value} {j:Nat} (h:gV ps j=true):aL (ps.getD (j*6+0) undef) (ps.getD (j*6+1) undef) (ps.getD (j*6+2) undef)=true∧aL (ps.getD (j*6+3) undef) (ps.getD (j*6+4) undef) (ps.getD (j*6+5) undef)=true:=by
 unfold gV at h
 rwa [Bool.and_eq_true] at h
abbrev eC:List Bool:= [false,true,false,true]
def eO (n:Nat) (ps:List Value) (r:Bool) (i:Int):List AV:=ao 37 [(0, .lst false 35 n (af 6 ps)),(2, .val (.bool r)),(3, .val (.int .i64 i))]
def dY (n:Nat) (ps:List Value) (r:Bool) (i:Int):Hp:= []
theorem Rn:aI Tryz.prog 36 eC=some (.loop (lb 36 eC)):=by kernel_rfl
theorem S9:aI Tryz.prog 36 (false :: eC)=some (lb 36 eC):=by kernel_rfl
theorem Ed (K:Hg) (n:Nat) (ps:List Value) (r:Bool) (i:Int):
  (aP Tryz.prog (wo K) 36 [0,2,3] (lb 36 eC) (false :: eC) (eO n ps r i) (dY n ps r i)=(bif decide (i < (↑n:Int)) then (bif decide (0≤i)&&decide (i < (↑n:Int)) then (bif aL (ps.getD (i.toNat*6+0) undef) (ps.getD (i.toNat*6+1) undef) (ps.getD (i.toNat*6+2) undef)&&true then (bif K.gr (ag (ps.getD (i.toNat*6+1) undef)) (ag (ps.getD (i.toNat*6+2) undef)) then some (.ret,ao 37 [(0,(.lst false 35 n (af 6 ps))),(2,(.val (.bool true))),(3,(.val (.int .i64 i)))], []) else (bif decide (0≤i)&&decide (i < (↑n:Int)) then (bif aL (ps.getD (i.toNat*6+3) undef) (ps.getD (i.toNat*6+4) undef) (ps.getD (i.toNat*6+5) undef)&&true then (bif K.gr (ag (ps.getD (i.toNat*6+4) undef)) (ag (ps.getD (i.toNat*6+5) undef)) then some (.ret,ao 37 [(0,(.lst false 35 n (af 6 ps))),(2,(.val (.bool true))),(3,(.val (.int .i64 i)))], []) else (bif ah IntKind.i64 (i+1) then some (.normal,ao 37 [(0,(.lst false 35 n (af 6 ps))),(2,(.val (.bool r))),(3,(.val (.int .i64 (i+1))))], []) else none)) else none) else none)) else none) else none) else some ((.exit 0),ao 37 [(0,(.lst false 35 n (af 6 ps))),(2,(.val (.bool r))),(3,(.val (.int .i64 i)))], []))):=by kernel_rfl
theorem za {n:Nat} {ps:List Value} {r:Bool} {i:Int} {e:Ex} {T:List AV} {H:Hp} (h:aP Tryz.prog (wo bd) 36 [0,2,3] (lb 36 eC) (false :: eC) (eO n ps r i) (dY n ps r i)=some (e,T,H)):V.Ends Tryz.prog false 0 0 (lb 36 eC) (eO n ps r i) (dY n ps r i) e T H:=
 bK ((aK _).add xC.gR) aO mixed S9 h
theorem KJ (n:Nat) (ps:List Value) (r:Bool) (i:Nat) (hi:i < n) (ab:n≤9223372036854775807) (I:gV ps i=true) (J:tL ps i=false) (M:xU ps i=false):V.Ends Tryz.prog false 0 0 (lb 36 eC) (eO n ps r i) (dY n ps r i) .normal (eO n ps r ((i+1:Nat):Int)) (dY n ps r ((i+1:Nat):Int)):=by
 have G:=Ed bd n ps r i
 obtain ⟨k1,O⟩:=C9 I
 have U:bd.gr (ag (ps.getD (i*6+1) undef)) (ag (ps.getD (i*6+2) undef))=false:=J
 have Z:bd.gr (ag (ps.getD (i*6+4) undef)) (ag (ps.getD (i*6+5) undef))=false:=M
 rw [Int.toNat_natCast,dT (show (i:Int) < (n:Int) by omega),dT (show (0:Int)≤(i:Int) by omega),k1,O,U,Z,aJ (z:=(i:Int)+1) (by omega)] at G
 exact za G
def uz (n:Nat) (ps:List Value) (r:Bool) (i:Int):Prop:=i=0∧n≤9223372036854775807∧∀ j,j < n→gV ps j=true∧tL ps j=false∧xU ps j=false
def Dn (n:Nat) (ps:List Value) (r:Bool) (i ρ:Int):Prop:=True
theorem WI (n:Nat) (ps:List Value) (r:Bool) (M:n≤9223372036854775807) (h:∀ j,j < n→gV ps j=true∧tL ps j=false∧xU ps j=false) (k:Nat):∀ i,n=i+k→aA Tryz.prog (lb 36 eC) (eO n ps r (i:Nat)) (dY n ps r (i:Nat)) (.exit 0) (eO n ps r (n:Int)) (dY n ps r (n:Int)):=by
 induction k with
 | zero=>
  intro i hi
  have:i=n:=by omega
  subst this
  refine .last (za ?_) (by intro h;cases h)
  rw [Ed,dF (show ¬ ((i:Nat):Int) < (i:Int) by omega)]
  rfl
 | succ k O=>
  intro i hi
  obtain ⟨G,I,J⟩:=h i (by omega)
  exact .more (KJ n ps r i (by omega) M G I J) (O (i+1) (by omega))
theorem Ye (n:Nat) (ps:List Value) (r:Bool) (i:Int) (h:uz n ps r i):∃ ρ:Int,aA Tryz.prog (lb 36 eC) (eO n ps r i) (dY n ps r i) (.exit 0) (eO n ps r ρ) (dY n ps r ρ)∧Dn n ps r i ρ:=by
 obtain ⟨rfl,G,h⟩:=h
 exact ⟨(n:Int),WI n ps r G h n 0 (by omega),trivial⟩
def FU (J:Nat→List Value→Bool→Int→Bool) (I:Nat→List Value→Bool→Int→Int) (T:List AV) (H:Hp):Option (Bool×Ex×List AV×Hp):=
 match al T 0,al T 2,al T 3,H with
 | .lst false 35 n G, .val (.bool r), .val (.int .i64 i), []=>bif T.length==37 then some (aw 6 n G&&J n (ai 6 n G) r i, .exit 0,eO n (ai 6 n G) r ((I n (ai 6 n G) r i)),dY n (ai 6 n G) r ((I n (ai 6 n G) r i))) else none
 | _,_,_,_=>none
abbrev H5:Type:=Nat→List Value→Bool→Int→Bool
abbrev Hx:Type:=Nat→List Value→Bool→Int→Int
def Bc (G:H5) (I:Hx) (L:aD):aD:=bu 0 36 eC [0,2,3] (FU G I) L
def rC (n:Nat) (ps:List Value) (r:Bool) (i:Int):Int:=Classical.epsilon fun ρ=>aA Tryz.prog (lb 36 eC) (eO n ps r i) (dY n ps r i) (.exit 0) (eO n ps r (ρ)) (dY n ps r (ρ))∧Dn n ps r i ρ
theorem ZQ (n:Nat) (ps:List Value) (r:Bool) (i:Int) (h:uz n ps r i):aA Tryz.prog (lb 36 eC) (eO n ps r i) (dY n ps r i) (.exit 0) (eO n ps r ((rC n ps r i))) (dY n ps r ((rC n ps r i)))∧Dn n ps r i (rC n ps r i):=Classical.epsilon_spec (Ye n ps r i h)
def xh (n:Nat) (ps:List Value) (r:Bool) (i:Int):Bool:= @decide (uz n ps r i) (Classical.propDecidable _)
theorem T4 (n:Nat) (ps:List Value) (r:Bool) (i:Int) (h:uz n ps r i):xh n ps r i=true:= @decide_eq_true _ (Classical.propDecidable _) h
theorem ade (T:List AV) (H:Hp) (e:Ex) (J:List AV) (I:Hp) (h:FU xh rC T H=some (true,e,J,I)):V.Ends Tryz.prog false 0 0 (.loop (lb 36 eC)) T H e J I:=by
 unfold FU at h
 split at h
 ·rename_i n U r i Z ab aE
  rw [Bool.cond_eq_ite] at h
  split at h
  ·rename_i M
   rw [beq_iff_eq] at M
   simp only [Option.some.injEq,Prod.mk.injEq,Bool.and_eq_true,decide_eq_true_eq] at h
   obtain ⟨⟨k1,a6⟩,rfl,rfl,rfl⟩:=h
   have a7:= @of_decide_eq_true _ (Classical.propDecidable _) a6
   refine Ends.pre (ZQ n (ai 6 n U) r i a7).1.ends (fun α B w D bx a1=>bw M (fun p O y G=> ?_) a1)
   simp only [List.mem_cons,List.not_mem_nil,or_false] at O
   rcases O with rfl | rfl | rfl
   ·rw [Z] at G;exact kV (by kernel_rfl) k1 G
   ·rw [ab] at G;exact G
   ·rw [aE] at G;exact G
  ·cases h
 ·cases h
theorem Qc {L:aD} (h:aC Tryz.prog L):aC Tryz.prog (Bc xh rC L):=h.bC Rn ade
end
end Go.Proofs.YtamcpiicmfielaaGreat.L
namespace Go.Proofs.YtamcpiicmfielaaGreat.L
open Go Go.V Go.RowKit Go.Proofs.YtamcpiicmfielaaGreat.Sp
open Go.Proofs (Tryz.prog)
noncomputable section
abbrev pt:List Bool:= [false,true,false,true]
def pM (n:Nat) (ps:List Value) (r:Bool) (i:Int):List AV:=ao 37 [(0, .lst false 35 n (af 6 ps)),(2, .val (.bool r)),(3, .val (.int .i64 i))]
def oS (n:Nat) (ps:List Value) (r:Bool) (i:Int):Hp:= []
theorem Rs:aI Tryz.prog 36 pt=some (.loop (lb 36 pt)):=by kernel_rfl
def kI (ps:List Value) (j:Nat):Bool:=tL ps j ||xU ps j
theorem WX (n:Nat) (ps:List Value) (r:Bool) (i:Nat) (hi:i < n) (ab:n≤9223372036854775807) (O:gV ps i=true) (J:kI ps i=true):V.Ends Tryz.prog false 0 0 (lb 36 eC) (eO n ps r i) (dY n ps r i) .ret (eO n ps true i) (dY n ps true i):=by
 have G:=Ed bd n ps r i
 obtain ⟨k1,U⟩:=C9 O
 unfold kI at J
 rw [Int.toNat_natCast,dT (show (i:Int) < (n:Int) by omega),dT (show (0:Int)≤(i:Int) by omega),k1,U] at G
 by_cases I:tL ps i=true
 ·have M:bd.gr (ag (ps.getD (i*6+1) undef)) (ag (ps.getD (i*6+2) undef))=true:=I
  rw [M] at G
  exact za G
 ·rw [Bool.not_eq_true] at I
  rw [I,Bool.false_or] at J
  have M:bd.gr (ag (ps.getD (i*6+1) undef)) (ag (ps.getD (i*6+2) undef))=false:=I
  have Z:bd.gr (ag (ps.getD (i*6+4) undef)) (ag (ps.getD (i*6+5) undef))=true:=J
  rw [M,Z] at G
  exact za G
def uD (n:Nat) (ps:List Value) (r:Bool) (i:Int):Prop:=i=0∧n≤9223372036854775807∧(∀ j,j < n→gV ps j=true)∧∃ m,m < n∧(∀ j,j < m→kI ps j=false)∧kI ps m=true
def Dr (n:Nat) (ps:List Value) (r:Bool) (i:Int) (ρ:Bool×Int):Prop:=ρ.1=true
theorem WW (n:Nat) (ps:List Value) (r:Bool) (J:n≤9223372036854775807) (h:∀ j,j < n→gV ps j=true) (m:Nat) (I:m < n) (M:∀ j,j < m→kI ps j=false) (hb:kI ps m=true) (k:Nat):∀ i,m=i+k→aA Tryz.prog (lb 36 eC) (eO n ps r (i:Nat)) (dY n ps r (i:Nat)) .ret (eO n ps true (m:Int)) (dY n ps true (m:Int)):=by
 induction k with
 | zero=>
  intro i hi
  have:i=m:=by omega
  subst this
  exact .last (WX n ps r i I J (h i I) hb) (by intro h;cases h)
 | succ k O=>
  intro i hi
  have G:=M i (by omega)
  unfold kI at G
  rw [Bool.or_eq_false_iff] at G
  exact .more (KJ n ps r i (by omega) J (h i (by omega)) G.1 G.2) (O (i+1) (by omega))
theorem Yi (n:Nat) (ps:List Value) (r:Bool) (i:Int) (h:uD n ps r i):∃ ρ:Bool×Int,aA Tryz.prog (lb 36 pt) (pM n ps r i) (oS n ps r i) .ret (pM n ps ρ.1 ρ.2) (oS n ps ρ.1 ρ.2)∧Dr n ps r i ρ:=by
 obtain ⟨rfl,J,h,m,I,G,hb⟩:=h
 exact ⟨(true,(m:Int)),WW n ps r J h m I G hb m 0 (by omega),rfl⟩
def FY (J:Nat→List Value→Bool→Int→Bool) (I:Nat→List Value→Bool→Int→Bool×Int) (T:List AV) (H:Hp):Option (Bool×Ex×List AV×Hp):=
 match al T 0,al T 2,al T 3,H with
 | .lst false 35 n G, .val (.bool r), .val (.int .i64 i), []=>bif T.length==37 then some (aw 6 n G&&J n (ai 6 n G) r i, .ret,pM n (ai 6 n G) ((I n (ai 6 n G) r i).1) ((I n (ai 6 n G) r i).2),oS n (ai 6 n G) ((I n (ai 6 n G) r i).1) ((I n (ai 6 n G) r i).2)) else none
 | _,_,_,_=>none
abbrev H8:Type:=Nat→List Value→Bool→Int→Bool
abbrev HB:Type:=Nat→List Value→Bool→Int→Bool×Int
def Bg (G:H8) (I:HB) (L:aD):aD:=bu 0 36 pt [0,2,3] (FY G I) L
def mK (n:Nat) (ps:List Value) (r:Bool) (i:Int):Bool×Int:=Classical.epsilon fun ρ=>aA Tryz.prog (lb 36 pt) (pM n ps r i) (oS n ps r i) (.ret) (pM n ps (ρ.1) (ρ.2)) (oS n ps (ρ.1) (ρ.2))∧Dr n ps r i ρ
theorem My (n:Nat) (ps:List Value) (r:Bool) (i:Int) (h:uD n ps r i):aA Tryz.prog (lb 36 pt) (pM n ps r i) (oS n ps r i) (.ret) (pM n ps ((mK n ps r i).1) ((mK n ps r i).2)) (oS n ps ((mK n ps r i).1) ((mK n ps r i).2))∧Dr n ps r i (mK n ps r i):=Classical.epsilon_spec (Yi n ps r i h)
def xk (n:Nat) (ps:List Value) (r:Bool) (i:Int):Bool:= @decide (uD n ps r i) (Classical.propDecidable _)
theorem T8 (n:Nat) (ps:List Value) (r:Bool) (i:Int) (h:uD n ps r i):xk n ps r i=true:= @decide_eq_true _ (Classical.propDecidable _) h
theorem adi (T:List AV) (H:Hp) (e:Ex) (J:List AV) (I:Hp) (h:FY xk mK T H=some (true,e,J,I)):V.Ends Tryz.prog false 0 0 (.loop (lb 36 pt)) T H e J I:=by
 unfold FY at h
 split at h
 ·rename_i n U r i Z ab aE
  rw [Bool.cond_eq_ite] at h
  split at h
  ·rename_i M
   rw [beq_iff_eq] at M
   simp only [Option.some.injEq,Prod.mk.injEq,Bool.and_eq_true,decide_eq_true_eq] at h
   obtain ⟨⟨k1,a6⟩,rfl,rfl,rfl⟩:=h
   have a7:= @of_decide_eq_true _ (Classical.propDecidable _) a6
   refine Ends.pre (My n (ai 6 n U) r i a7).1.ends (fun α B w D bx a1=>bw M (fun p O y G=> ?_) a1)
   simp only [List.mem_cons,List.not_mem_nil,or_false] at O
   rcases O with rfl | rfl | rfl
   ·rw [Z] at G;exact kV (by kernel_rfl) k1 G
   ·rw [ab] at G;exact G
   ·rw [aE] at G;exact G
  ·cases h
 ·cases h
theorem Qh {L:aD} (h:aC Tryz.prog L):aC Tryz.prog (Bg xk mK L):=h.bC Rs adi
end
end Go.Proofs.YtamcpiicmfielaaGreat.L
namespace Go.Proofs.YtamcpiicmfielaaGreat.L
open Go Go.V Go.RowKit Go.Proofs.YtamcpiicmfielaaGreat.Sp
open Go.Proofs (Tryz.prog)
noncomputable section
def cI (a b:AV):Prop:=∀ (B:Nat→Prop) (w:World) (y:Value),a.Rel Tryz.prog cp B w bc y→b.Rel Tryz.prog cp B w bc y
def cm (a b:List AV):Prop:=∀ (B:Nat→Prop) (w:World) (G:List Value),aj Tryz.prog cp B w a bc G→aj Tryz.prog cp B w b bc G
theorem cI.refl (a:AV):cI a a:=fun _ _ _ h=>h
theorem cm.refl (a:List AV):cm a a:=fun _ _ _ h=>h
theorem cm.cons {a b:AV} {l m:List AV} (h:cI a b) (k:cm l m):cm (a :: l) (b :: m):=fun B w M J=>by
 obtain ⟨y,zs,rfl,G,I⟩:=J
 exact ⟨y,zs,rfl,h _ _ _ G,k _ _ _ I⟩
theorem cI.agg {l m:List AV} (k:cm l m):cI (.agg l) (.agg m):=fun B w y G=>by
 obtain ⟨I,rfl,h⟩:=G
 exact ⟨I,rfl,k _ _ _ h⟩
theorem cI.tup {l m:List AV} (k:cm l m):cI (.tup l) (.tup m):=fun B w y G=>by
 obtain ⟨I,rfl,h⟩:=G
 exact ⟨I,rfl,k _ _ _ h⟩
theorem cI.row {fl:Bool} {t:TypeId} {sz n:Nat} {f:Nat→Nat→AV} (G:Tryz.prog.cellsOf t=sz) (h:aw sz n f=true):cI (.lst fl t n f) (.lst false t n (af sz (ai sz n f))):=fun B w y I=>kV G h I
theorem oL {g:FuncId} {f:TF} (a6:fQ Tryz.prog g=true) (h:∀ args r,f args=some (true,r)→∃ (E:Env) (u d:Nat) (G:List AV) (v:AV),bf Tryz.prog E.C∧dg Tryz.prog E∧aG Tryz.prog E u d g G=some v∧cm args G∧cI v r):Entry Tryz.prog g f:=by
 intro args r a7 B w bD ab bx
 obtain ⟨E,u,d,G,v,aE,a1,I,J,M⟩:=h args r a7
 refine (qy aE a1 mixed a6 I B w bD ab (J B w _ bx)).mono ?_
 rintro e w' ⟨y,O,U,Z⟩
 exact ⟨y,O,U,M B w' y Z⟩
theorem dC (sz n:Nat) (f:Nat→Nat→AV):(ai sz n f).length=n*sz:=by simp [ai]
theorem c9 (sz n:Nat) (vs:List Value):aw sz n (af sz vs)=true:=List.all_eq_true.2 fun i _=>rfl
theorem bj {sz n:Nat} {vs:List Value} (h:vs.length=n*sz):ai sz n (af sz vs)=vs:=by
 apply List.ext_getElem?
 intro i
 by_cases hi:i < n*sz
 ·unfold ai
  rw [List.getElem?_map,List.getElem?_range hi,List.getElem?_eq_getElem (show i < vs.length by omega)]
  show some (vs.getD (i / sz*sz+i % sz) undef)=_
  rw [Nat.div_add_mod',List.getD_eq_getElem?_getD,List.getElem?_eq_getElem (show i < vs.length by omega)];rfl
 ·rw [List.getElem?_eq_none (by rw [dC];omega),List.getElem?_eq_none (by omega)]
theorem xO {p:Nat→Bool} (n:Nat) (h:(List.range n).any p=true):∃ m,m < n∧(∀ j,j < m→p j=false)∧p m=true:=by
 induction n with
 | zero=>cases h
 | succ n O=>
  by_cases G:(List.range n).any p=true
  ·obtain ⟨m,U,I,J⟩:=O G
   exact ⟨m,by omega,I,J⟩
  ·rw [Bool.not_eq_true,List.any_eq_false] at G
   rw [List.range_succ,List.any_append,List.any_eq_false.2 G] at h
   simp only [List.any_cons,List.any_nil,Bool.or_false,Bool.false_or] at h
   exact ⟨n,by omega,fun j M=>by have:=G j (List.mem_range.2 M);rwa [Bool.not_eq_true] at this,h⟩
theorem wH {p:Nat→Bool} {n:Nat} (h:(List.range n).all p=true) {j:Nat} (G:j < n):p j=true:=List.all_eq_true.1 h j (List.mem_range.2 G)
theorem none_lt {p:Nat→Bool} {n:Nat} (h:¬ (List.range n).any p=true) {j:Nat} (G:j < n):p j=false:=by
 rw [Bool.not_eq_true,List.any_eq_false] at h
 have:=h j (List.mem_range.2 G)
 rwa [Bool.not_eq_true] at this
structure Tg where
 mD:Nat→List Value→Bool
 gp:Nat→List Value→Bool
def dM (n:Nat) (ps:List Value):Bool:=decide (n≤9223372036854775807)&&(List.range n).all (gV ps)
def oQ (n:Nat) (ps:List Value):Bool:=(List.range n).any (kI ps) ||(decide (10 < n)&&decide (n≤1000) ||decide (1005 < n))
def lV:Tg where
 mD:=dM
 gp:=oQ
theorem L5 {n:Nat} {ps:List Value} (h:lV.mD n ps=true):n≤9223372036854775807∧∀ j,j < n→gV ps j=true:=by
 have h:(decide _&&(List.range n).all (gV ps))=true:=h
 rw [Bool.and_eq_true,decide_eq_true_eq] at h
 exact ⟨h.1,fun j G=>wH h.2 G⟩
def Fm (T:Tg):TF:=fun args=>match args with
 | [.lst _ 35 n f]=>some (aw 6 n f&&T.mD n (ai 6 n f), .val (.bool (T.gp n (ai 6 n f))))
 | _=>none
theorem WH (G:H5) (I:Hx) (n:Nat) (ps:List Value):aG Tryz.prog ⟨aM,az,Bc G I aq⟩ 10 10 36 [.lst false 35 n (af 6 ps)]=
  (bif aw 6 n (af 6 ps)&&G n (ai 6 n (af 6 ps)) false (0:Int) then (bif decide (10 < (↑n:Int)) then (bif decide ((↑n:Int)≤1000) then some (.val (.bool true)) else some (.val (.bool (decide (1005 < (↑n:Int)))))) else some (.val (.bool (decide (1005 < (↑n:Int)))))) else none):=by kernel_rfl
theorem WV (G:H8) (I:HB) (n:Nat) (ps:List Value):aG Tryz.prog ⟨aM,az,Bg G I aq⟩ 10 10 36 [.lst false 35 n (af 6 ps)]=
  (bif aw 6 n (af 6 ps)&&G n (ai 6 n (af 6 ps)) false (0:Int) then some (.val (.bool ((I n (ai 6 n (af 6 ps)) false (0:Int)).fst))) else none):=by kernel_rfl
theorem Vw:Entry Tryz.prog 36 (Fm lV):=by
 refine oL (by kernel_rfl) (fun args r h=> ?_)
 unfold Fm at h
 split at h
 ·rename_i fl n f
  simp only [Option.some.injEq,Prod.mk.injEq,Bool.and_eq_true] at h
  obtain ⟨⟨a6,a7⟩,rfl⟩:=h
  have O:cm [.lst fl 35 n f] [.lst false 35 n (af 6 (ai 6 n f))]:=cm.cons (cI.row (by kernel_rfl) a6) (cm.refl _)
  have Z:=dC 6 n f
  generalize ai 6 n f=ps at*
  obtain ⟨ab,aE⟩:=L5 a7
  by_cases G:(List.range n).any (kI ps)=true
  ·have I:uD n ps false 0:= ⟨rfl,ab,aE,xO n G⟩
   refine ⟨⟨aM,az,Bg xk mK aq⟩,10,10,_,_,aK _,(Qh aC.none).ok, ?_,O,cI.refl _⟩
   have e:lV.gp n ps=true:=by show oQ n ps=true;unfold oQ;rw [G];rfl
   have a1:(mK n ps false 0).fst=true:=(My _ _ _ _ I).2
   rw [WV,c9,bj Z,T8 _ _ _ _ I,e,a1];rfl
  ·have I:uz n ps false 0:= ⟨rfl,ab,fun j U=> ⟨aE j U,by have:=none_lt G U;unfold kI at this;rw [Bool.or_eq_false_iff] at this;exact this⟩⟩
   refine ⟨⟨aM,az,Bc xh rC aq⟩,10,10,_,_,aK _,(Qc aC.none).ok, ?_,O,cI.refl _⟩
   have e:lV.gp n ps=(decide (10 < n)&&decide (n≤1000) ||decide (1005 < n)):=by show oQ n ps=_;unfold oQ;rw [Bool.eq_false_iff.2 G];rfl
   rw [WH,c9,bj Z,T4 _ _ _ _ I,e]
   by_cases J:10 < n
   ·rw [decide_eq_true J,dT (show (10:Int) < (n:Int) by omega)]
    by_cases M:n≤1000
    ·rw [decide_eq_true M,dT (show (n:Int)≤1000 by omega)];rfl
    ·rw [decide_eq_false M,dF (show ¬ (n:Int)≤1000 by omega)]
     rw [show decide ((1005:Int) < (n:Int))=decide (1005 < n) from decide_eq_decide.2 (by omega)];rfl
   ·rw [decide_eq_false J,dF (show ¬ (10:Int) < (n:Int) by omega)]
    rw [show decide ((1005:Int) < (n:Int))=decide (1005 < n) from decide_eq_decide.2 (by omega)];rfl
 ·cases h
end
end Go.Proofs.YtamcpiicmfielaaGreat.L
namespace Go.Proofs.YtamcpiicmfielaaGreat.L
open Go Go.V Go.RowKit Go.Proofs.YtamcpiicmfielaaGreat.Sp
open Go.Proofs (Tryz.prog)
noncomputable section
def c8 (ps:List Value) (j:Nat):Bool:=gV ps j&&(bd.ok (ag (ps.getD (j*6+1) undef)) (ag (ps.getD (j*6+2) undef))&&bd.ok (ag (ps.getD (j*6+4) undef)) (ag (ps.getD (j*6+5) undef)))
def jK (ps:List Value) (j:Nat):Int:=bd.kv (ar (ps.getD (j*6+0) undef)) (ag (ps.getD (j*6+1) undef)) (ag (ps.getD (j*6+2) undef)) (ar (ps.getD (j*6+3) undef)) (ag (ps.getD (j*6+4) undef)) (ag (ps.getD (j*6+5) undef))
def oE (ps:List Value) (j:Nat):Bool:= !decide (jK ps j=0)
theorem mB {ps:List Value} {j:Nat} (h:c8 ps j=true):(aL (ps.getD (j*6+0) undef) (ps.getD (j*6+1) undef) (ps.getD (j*6+2) undef)=true∧aL (ps.getD (j*6+3) undef) (ps.getD (j*6+4) undef) (ps.getD (j*6+5) undef)=true)∧bd.ok (ag (ps.getD (j*6+1) undef)) (ag (ps.getD (j*6+2) undef))=true∧bd.ok (ag (ps.getD (j*6+4) undef)) (ag (ps.getD (j*6+5) undef))=true:=by
 unfold c8 at h
 rw [Bool.and_eq_true,Bool.and_eq_true] at h
 exact ⟨C9 h.1,h.2⟩
end
end Go.Proofs.YtamcpiicmfielaaGreat.L
namespace Go.Proofs.YtamcpiicmfielaaGreat.L
open Go Go.V Go.RowKit Go.Proofs.YtamcpiicmfielaaGreat.Sp
open Go.Proofs (Tryz.prog)
noncomputable section
theorem tO (b:Bool) (n d:BA):aL (.bool b) (.string n) (.string d)=true:=rfl
def iO (q:Rat):List Value:= [.bool (ad.qn q), .string (ad.qs q), .string (ad.qd q)]
def bZ (n:Nat) (q:Nat→Rat):List Value:=(List.range n).flatMap fun i=>iO (q i)
theorem Jl (n:Nat) (q:Nat→Rat):bZ (n+1) q=bZ n q ++ iO (q n):=by
 unfold bZ
 rw [List.range_succ,List.flatMap_append]
 simp
theorem ll (n:Nat) (q:Nat→Rat):(bZ n q).length=n*3:=by
 induction n with
 | zero=>rfl
 | succ n G=>rw [Jl,List.length_append,G];show n*3+3=_;omega
theorem nB (n:Nat) (q:Nat→Rat) {j k:Nat} (I:j < n) (J:k < 3):(bZ n q).getD (j*3+k) undef=(iO (q j)).getD k undef:=by
 induction n with
 | zero=>omega
 | succ n G=>
  rw [Jl,List.getD_eq_getElem?_getD]
  by_cases h:j < n
  ·rw [List.getElem?_append_left (by rw [ll];omega),← List.getD_eq_getElem?_getD]
   exact G h
  ·have:j=n:=by omega
   subst this
   rw [List.getElem?_append_right (by rw [ll];omega),ll,Nat.add_sub_cancel_left,← List.getD_eq_getElem?_getD]
theorem SC (n:Nat) (q:Nat→Rat) {j:Nat} (G:j < n):(bZ n q).getD (j*3+0) undef= .bool (ad.qn (q j)):=nB n q G (by decide)
theorem SF (n:Nat) (q:Nat→Rat) {j:Nat} (G:j < n):(bZ n q).getD (j*3+1) undef= .string (ad.qs (q j)):=nB n q G (by decide)
theorem SE (n:Nat) (q:Nat→Rat) {j:Nat} (G:j < n):(bZ n q).getD (j*3+2) undef= .string (ad.qd (q j)):=nB n q G (by decide)
theorem SD {n:Nat} {q q':Nat→Rat} (h:∀ i,i < n→q i=q' i):bZ n q=bZ n q':=by
 unfold bZ
 rw [List.flatMap_def,List.flatMap_def]
 congr 1
 exact List.map_congr_left fun i hi=>by rw [h i (List.mem_range.1 hi)]
def vi (vs:List Value) (o:Nat):Rat:=ad.qv (ar (vs.getD (o+0) undef)) (ag (vs.getD (o+1) undef)) (ag (vs.getD (o+2) undef))
theorem aag (n:Nat) (q:Nat→Rat) {j:Nat} (G:j < n):vi (bZ n q) (j*3)=q j:=by
 unfold vi
 rw [SC n q G,SF n q G,SE n q G]
 exact dN _
def px (ps:List Value) (j:Nat):Rat:=vi ps (j*6)
def py (ps:List Value) (j:Nat):Rat:=ad.qv (ar (ps.getD (j*6+3) undef)) (ag (ps.getD (j*6+4) undef)) (ag (ps.getD (j*6+5) undef))
end
end Go.Proofs.YtamcpiicmfielaaGreat.L
