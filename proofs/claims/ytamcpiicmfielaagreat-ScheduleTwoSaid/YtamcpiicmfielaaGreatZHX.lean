import Derived.Test.YtamcpiicmfielaaGreatZV2
import Derived.Test.YtamcpiicmfielaaGreatZQA
import Derived.Test.YtamcpiicmfielaaGreatZUA
import Derived.Test.YtamcpiicmfielaaGreatZMD
set_option linter.unusedVariables false
set_option linter.unusedSimpArgs false
namespace Go.Proofs.YtamcpiicmfielaaGreat.L
open Go Go.V Go.RowKit Go.Proofs.YtamcpiicmfielaaGreat.Sp
open Go.Proofs (Tryz.prog)
noncomputable section
abbrev BA:Type:=ByteArray
structure Hg where
 gr:BA→BA→Bool
 kv:Bool→BA→BA→Bool→BA→BA→Int
 ok:BA→BA→Bool
 ds:Rat→Rat→Rat→Rat→Rat
 st:Rat→Rat→Int→Int
 zf:BA→BA→Bool
 pos:Rat→Rat→Bool
def p1 (f:Bool→BA→BA→Option (Bool×AV)):TF:=fun args=>match args with
 | [.agg [.val (.bool b), .val (.string n), .val (.string d)]]=>f b n d
 | _=>none
def p2 (f:Bool→BA→BA→Bool→BA→BA→Option (Bool×AV)):TF:=fun args=>match args with
 | [.agg [.val (.bool b), .val (.string n), .val (.string d), .val (.bool c), .val (.string m), .val (.string e)]]=>f b n d c m e
 | _=>none
def p3 (f:Bool→BA→BA→Bool→BA→BA→Bool→BA→BA→Bool→BA→BA→Option (Bool×AV)):TF:=fun args=>match args with
 | [.agg [.val (.bool b), .val (.string n), .val (.string d), .val (.bool c), .val (.string m), .val (.string e)], .agg [.val (.bool G), .val (.string U), .val (.string J), .val (.bool I), .val (.string O), .val (.string M)]]=>f b n d c m e G U J I O M
 | _=>none
def p4 (f:Bool→BA→BA→Bool→BA→BA→Int→Option (Bool×AV)):TF:=fun args=>match args with
 | [.agg [.val (.bool b), .val (.string n), .val (.string d)], .agg [.val (.bool c), .val (.string m), .val (.string e)], .val (.int .i64 g)]=>f b n d c m e g
 | _=>none
def GB (K:Hg):TF:=p1 fun b n d=>some (true, .val (.bool (K.gr n d)))
def sT (K:Hg):TF:=p2 fun b n d c m e=>some (K.ok n d&&K.ok m e, .val (.int .i64 (K.kv b n d c m e)))
def upN (q:Nat):Nat:=if bP q*bP q=q then bP q else bP q+1
def stN (x s:Rat) (g:Int):Int:=let q:=(x*((g:Rat)*(g:Rat)) / (s*s)).ceil;max 1 ((upN q.natAbs:Nat):Int)
def bR:Hg where
 gr n d:=decide (12 < n.size) ||decide (12 < d.size)
 kv b n d c m e:=bif decide (af.ck b n d=0)&&decide (af.ck c m e=0) then 0 else 1
 ok n d:=decide (n.size≤12)&&decide (d.size≤12)
 ds x y u v:=(x - u)*(x - u)+(y - v)*(y - v)
 st:=stN
 zf n d:=decide (n.size≤200)&&decide (d.size≤200)
 pos x s:=decide (0≤x)&&decide (0 < s)
end
end Go.Proofs.YtamcpiicmfielaaGreat.L
namespace Go.Proofs.YtamcpiicmfielaaGreat.L
open Go Go.V Go.RowKit Go.Proofs.YtamcpiicmfielaaGreat.Sp
open Go.Proofs (Tryz.prog)
noncomputable section
abbrev w3 (b:Bool) (n d:BA):AV:= .agg [.val (.bool b), .val (.string n), .val (.string d)]
abbrev w6 (b:Bool) (n d:BA) (c:Bool) (m e:BA):AV:= .agg [.val (.bool b), .val (.string n), .val (.string d), .val (.bool c), .val (.string m), .val (.string e)]
theorem Y1 (b:Bool) (n d:BA):aF Tryz.prog ⟨aK,au,aq⟩ 10 10 8 [w3 b n d]=
  (bif decide (12 < (↑(ByteArray.size n):Int)) then some (.val (.bool true)) else some (.val (.bool (decide (12 < (↑(ByteArray.size d):Int)))))):=by kernel_rfl
theorem ahp (G:Qg) (b c:Bool) (n d m e:BA):aF Tryz.prog ⟨aw 49 (sR G) aK,au,aq⟩ 10 10 57 [w6 b n d c m e]=
  (bif G.ok n d then (bif !decide (G.ck b n d=0) then some (.val (.int .i64 1)) else (bif G.ok m e then (bif !decide (G.ck c m e=0) then some (.val (.int .i64 1)) else some (.val (.int .i64 0))) else none)) else none):=by kernel_rfl
theorem aen (G:Qg) (b c:Bool) (n d m e:BA):aF Tryz.prog ⟨aw 51 (nM G fun b n d=> .val (.int .i64 (G.ck b n d))) aK,au,aq⟩ 10 10 58 [w6 b n d c m e]=
  (bif G.aV n d then (bif !decide (G.ck b n d=0) then some (.val (.int .i64 1)) else (bif G.aV m e then (bif !decide (G.ck c m e=0) then some (.val (.int .i64 1)) else some (.val (.int .i64 0))) else none)) else none):=by kernel_rfl
end
end Go.Proofs.YtamcpiicmfielaaGreat.L
namespace Go.Proofs.YtamcpiicmfielaaGreat.L
open Go Go.V Go.RowKit Go.Proofs.YtamcpiicmfielaaGreat.Sp
open Go.Proofs (Tryz.prog)
noncomputable section
theorem rU {n d:BA} (h:bR.ok n d=true):n.size≤12∧d.size≤12:=by
 have G:(decide (n.size≤12)&&decide (d.size≤12))=true:=h
 rwa [Bool.and_eq_true,decide_eq_true_eq,decide_eq_true_eq] at G
theorem NC {n d:BA} (h:bR.ok n d=true):af.ok n d=true:=OO (by have:=rU h;omega) (by have:=rU h;omega)
theorem ND {n d:BA} (h:bR.ok n d=true):af.aV n d=true:=OP (by have:=rU h;omega) (by have:=rU h;omega)
theorem abW {b:Bool} {n d:BA} (h:bR.ok n d=true):cK (af.qv b n d)≤12:=by
 have:=Gt b n d
 have:=rU h
 omega
theorem Lr:Entry Tryz.prog 8 (GB bR):=by
 refine bg (E:= ⟨aK,au,aq⟩) (u:=10) (d:=10) (aJ _) aN mixed (by kernel_rfl) (fun args r h=> ?_)
 unfold GB p1 at h
 split at h
 ·rename_i b n d
  simp only [Option.some.injEq,Prod.mk.injEq,true_and] at h
  subst h
  rw [Y1]
  have e1:decide ((12:Int) < (n.size:Int))=decide (12 < n.size):=decide_eq_decide.2 (by omega)
  have G:decide ((12:Int) < (d.size:Int))=decide (12 < d.size):=decide_eq_decide.2 (by omega)
  have I:bR.gr n d=(decide (12 < n.size) ||decide (12 < d.size)):=rfl
  rw [e1,G,I]
  cases decide (12 < n.size) <;> rfl
 ·cases h
theorem MM (b c:Bool) (n d m e:BA):bR.kv b n d c m e=bif decide (af.ck b n d=0)&&decide (af.ck c m e=0) then 0 else 1:=rfl
theorem Yt:Entry Tryz.prog 57 (sT bR):=by
 refine bg (E:= ⟨aw 49 (sR af) aK,au,aq⟩) (u:=10) (d:=10) ((aJ _).add Da) aN mixed (by kernel_rfl) (fun args r h=> ?_)
 unfold sT p2 at h
 split at h
 ·rename_i b n d c m e
  simp only [Option.some.injEq,Prod.mk.injEq,Bool.and_eq_true] at h
  obtain ⟨⟨G,I⟩,rfl⟩:=h
  rw [ahp,NC G,NC I,MM]
  cases decide (af.ck b n d=0) <;> cases decide (af.ck c m e=0) <;> rfl
 ·cases h
theorem Yl:Entry Tryz.prog 58 (sT bR):=by
 refine bg (E:= ⟨aw 51 (nM af fun b n d=> .val (.int .i64 (af.ck b n d))) aK,au,aq⟩) (u:=10) (d:=10) ((aJ _).add LB) aN mixed (by kernel_rfl) (fun args r h=> ?_)
 unfold sT p2 at h
 split at h
 ·rename_i b n d c m e
  simp only [Option.some.injEq,Prod.mk.injEq,Bool.and_eq_true] at h
  obtain ⟨⟨G,I⟩,rfl⟩:=h
  rw [aen,ND G,ND I,MM]
  cases decide (af.ck b n d=0) <;> cases decide (af.ck c m e=0) <;> rfl
 ·cases h
end
end Go.Proofs.YtamcpiicmfielaaGreat.L
namespace Go.Proofs.YtamcpiicmfielaaGreat.L
open Go Go.V Go.RowKit Go.Proofs.YtamcpiicmfielaaGreat.Sp
open Go.Proofs (Tryz.prog)
noncomputable section
theorem qa {z:Int} (h:bs z.natAbs≤1000):aa.ok (aa.ms z)=true:=bW (by omega)
end
end Go.Proofs.YtamcpiicmfielaaGreat.L
namespace Go.Proofs.YtamcpiicmfielaaGreat.L
open Go Go.V Go.RowKit Go.Proofs.YtamcpiicmfielaaGreat.Sp
open Go.Proofs (Tryz.prog)
noncomputable section
def wZ (K:Hg):Env:= ⟨aw 8 (gR (GB K)) aK,au,aq⟩
def di (ps:List Value) (j:Nat):Bool:=aY (ps.getD (j*6+0) undef) (ps.getD (j*6+1) undef) (ps.getD (j*6+2) undef)&&aY (ps.getD (j*6+3) undef) (ps.getD (j*6+4) undef) (ps.getD (j*6+5) undef)
def uz (ps:List Value) (j:Nat):Bool:=bR.gr (ah (ps.getD (j*6+1) undef)) (ah (ps.getD (j*6+2) undef))
def yD (ps:List Value) (j:Nat):Bool:=bR.gr (ah (ps.getD (j*6+4) undef)) (ah (ps.getD (j*6+5) undef))
theorem uS {ps:List Value} {j:Nat} (h:di ps j=true):aY (ps.getD (j*6+0) undef) (ps.getD (j*6+1) undef) (ps.getD (j*6+2) undef)=true∧aY (ps.getD (j*6+3) undef) (ps.getD (j*6+4) undef) (ps.getD (j*6+5) undef)=true:=by
 unfold di at h
 rwa [Bool.and_eq_true] at h
abbrev eA:List Bool:= [false,true,false,true]
def eM (n:Nat) (ps:List Value) (r:Bool) (i:Int):List AV:=ar 37 [(0, .lst false 35 n (ad 6 ps)),(2, .val (.bool r)),(3, .val (.int .i64 i))]
def dW (n:Nat) (ps:List Value) (r:Bool) (i:Int):Hp:= []
theorem Tr:aH Tryz.prog 36 eA=some (.loop (lb 36 eA)):=by kernel_rfl
theorem Vb:aH Tryz.prog 36 (false :: eA)=some (lb 36 eA):=by kernel_rfl
theorem Fv (K:Hg) (n:Nat) (ps:List Value) (r:Bool) (i:Int):
  (aO Tryz.prog (wZ K) 36 [0,2,3] (lb 36 eA) (false :: eA) (eM n ps r i) (dW n ps r i)=(bif decide (i < (↑n:Int)) then (bif decide (0≤i)&&decide (i < (↑n:Int)) then (bif aY (ps.getD (i.toNat*6+0) undef) (ps.getD (i.toNat*6+1) undef) (ps.getD (i.toNat*6+2) undef)&&true then (bif K.gr (ah (ps.getD (i.toNat*6+1) undef)) (ah (ps.getD (i.toNat*6+2) undef)) then some (.ret,ar 37 [(0,(.lst false 35 n (ad 6 ps))),(2,(.val (.bool true))),(3,(.val (.int .i64 i)))], []) else (bif decide (0≤i)&&decide (i < (↑n:Int)) then (bif aY (ps.getD (i.toNat*6+3) undef) (ps.getD (i.toNat*6+4) undef) (ps.getD (i.toNat*6+5) undef)&&true then (bif K.gr (ah (ps.getD (i.toNat*6+4) undef)) (ah (ps.getD (i.toNat*6+5) undef)) then some (.ret,ar 37 [(0,(.lst false 35 n (ad 6 ps))),(2,(.val (.bool true))),(3,(.val (.int .i64 i)))], []) else (bif ai IntKind.i64 (i+1) then some (.normal,ar 37 [(0,(.lst false 35 n (ad 6 ps))),(2,(.val (.bool r))),(3,(.val (.int .i64 (i+1))))], []) else none)) else none) else none)) else none) else none) else some ((.exit 0),ar 37 [(0,(.lst false 35 n (ad 6 ps))),(2,(.val (.bool r))),(3,(.val (.int .i64 i)))], []))):=by kernel_rfl
theorem Ad {n:Nat} {ps:List Value} {r:Bool} {i:Int} {e:Ex} {T:List AV} {H:Hp} (h:aO Tryz.prog (wZ bR) 36 [0,2,3] (lb 36 eA) (false :: eA) (eM n ps r i) (dW n ps r i)=some (e,T,H)):V.Ends Tryz.prog false 0 0 (lb 36 eA) (eM n ps r i) (dW n ps r i) e T H:=
 bF ((aJ _).add Lr.gR) aN mixed Vb h
theorem Mk (n:Nat) (ps:List Value) (r:Bool) (i:Nat) (hi:i < n) (ab:n≤9223372036854775807) (I:di ps i=true) (J:uz ps i=false) (M:yD ps i=false):V.Ends Tryz.prog false 0 0 (lb 36 eA) (eM n ps r i) (dW n ps r i) .normal (eM n ps r ((i+1:Nat):Int)) (dW n ps r ((i+1:Nat):Int)):=by
 have G:=Fv bR n ps r i
 obtain ⟨k1,O⟩:=uS I
 have U:bR.gr (ah (ps.getD (i*6+1) undef)) (ah (ps.getD (i*6+2) undef))=false:=J
 have Z:bR.gr (ah (ps.getD (i*6+4) undef)) (ah (ps.getD (i*6+5) undef))=false:=M
 rw [Int.toNat_natCast,dT (show (i:Int) < (n:Int) by omega),dT (show (0:Int)≤(i:Int) by omega),k1,O,U,Z,aM (z:=(i:Int)+1) (by omega)] at G
 exact Ad G
def vb (n:Nat) (ps:List Value) (r:Bool) (i:Int):Prop:=i=0∧n≤9223372036854775807∧∀ j,j < n→di ps j=true∧uz ps j=false∧yD ps j=false
def EC (n:Nat) (ps:List Value) (r:Bool) (i ρ:Int):Prop:=True
theorem Y0 (n:Nat) (ps:List Value) (r:Bool) (M:n≤9223372036854775807) (h:∀ j,j < n→di ps j=true∧uz ps j=false∧yD ps j=false) (k:Nat):∀ i,n=i+k→av Tryz.prog (lb 36 eA) (eM n ps r (i:Nat)) (dW n ps r (i:Nat)) (.exit 0) (eM n ps r (n:Int)) (dW n ps r (n:Int)):=by
 induction k with
 | zero=>
  intro i hi
  have:i=n:=by omega
  subst this
  refine .last (Ad ?_) (by intro h;cases h)
  rw [Fv,dF (show ¬ ((i:Nat):Int) < (i:Int) by omega)]
  rfl
 | succ k O=>
  intro i hi
  obtain ⟨G,I,J⟩:=h i (by omega)
  exact .more (Mk n ps r i (by omega) M G I J) (O (i+1) (by omega))
theorem aax (n:Nat) (ps:List Value) (r:Bool) (i:Int) (h:vb n ps r i):∃ ρ:Int,av Tryz.prog (lb 36 eA) (eM n ps r i) (dW n ps r i) (.exit 0) (eM n ps r ρ) (dW n ps r ρ)∧EC n ps r i ρ:=by
 obtain ⟨rfl,G,h⟩:=h
 exact ⟨(n:Int),Y0 n ps r G h n 0 (by omega),trivial⟩
def G9 (J:Nat→List Value→Bool→Int→Bool) (I:Nat→List Value→Bool→Int→Int) (T:List AV) (H:Hp):Option (Bool×Ex×List AV×Hp):=
 match al T 0,al T 2,al T 3,H with
 | .lst false 35 n G, .val (.bool r), .val (.int .i64 i), []=>bif T.length==37 then some (an 6 n G&&J n (ag 6 n G) r i, .exit 0,eM n (ag 6 n G) r ((I n (ag 6 n G) r i)),dW n (ag 6 n G) r ((I n (ag 6 n G) r i))) else none
 | _,_,_,_=>none
abbrev JA:Type:=Nat→List Value→Bool→Int→Bool
abbrev I1:Type:=Nat→List Value→Bool→Int→Int
def B8 (G:JA) (I:I1) (L:aC):aC:=bp 0 36 eA [0,2,3] (G9 G I) L
def r7 (n:Nat) (ps:List Value) (r:Bool) (i:Int):Int:=Classical.epsilon fun ρ=>av Tryz.prog (lb 36 eA) (eM n ps r i) (dW n ps r i) (.exit 0) (eM n ps r (ρ)) (dW n ps r (ρ))∧EC n ps r i ρ
theorem acm (n:Nat) (ps:List Value) (r:Bool) (i:Int) (h:vb n ps r i):av Tryz.prog (lb 36 eA) (eM n ps r i) (dW n ps r i) (.exit 0) (eM n ps r ((r7 n ps r i))) (dW n ps r ((r7 n ps r i)))∧EC n ps r i (r7 n ps r i):=Classical.epsilon_spec (aax n ps r i h)
def xT (n:Nat) (ps:List Value) (r:Bool) (i:Int):Bool:= @decide (vb n ps r i) (Classical.propDecidable _)
theorem V6 (n:Nat) (ps:List Value) (r:Bool) (i:Int) (h:vb n ps r i):xT n ps r i=true:= @decide_eq_true _ (Classical.propDecidable _) h
theorem af8 (T:List AV) (H:Hp) (e:Ex) (J:List AV) (I:Hp) (h:G9 xT r7 T H=some (true,e,J,I)):V.Ends Tryz.prog false 0 0 (.loop (lb 36 eA)) T H e J I:=by
 unfold G9 at h
 split at h
 ·rename_i n U r i Z ab aE
  rw [Bool.cond_eq_ite] at h
  split at h
  ·rename_i M
   rw [beq_iff_eq] at M
   simp only [Option.some.injEq,Prod.mk.injEq,Bool.and_eq_true,decide_eq_true_eq] at h
   obtain ⟨⟨k1,a6⟩,rfl,rfl,rfl⟩:=h
   have a7:= @of_decide_eq_true _ (Classical.propDecidable _) a6
   refine Ends.pre (acm n (ag 6 n U) r i a7).1.ends (fun α B w D bx a1=>bq M (fun p O y G=> ?_) a1)
   simp only [List.mem_cons,List.not_mem_nil,or_false] at O
   rcases O with rfl | rfl | rfl
   ·rw [Z] at G;exact lE (by kernel_rfl) k1 G
   ·rw [ab] at G;exact G
   ·rw [aE] at G;exact G
  ·cases h
 ·cases h
theorem RW {L:aC} (h:aB Tryz.prog L):aB Tryz.prog (B8 xT r7 L):=h.bz Tr af8
end
end Go.Proofs.YtamcpiicmfielaaGreat.L
namespace Go.Proofs.YtamcpiicmfielaaGreat.L
open Go Go.V Go.RowKit Go.Proofs.YtamcpiicmfielaaGreat.Sp
open Go.Proofs (Tryz.prog)
noncomputable section
abbrev qg:List Bool:= [false,true,false,true]
def qA (n:Nat) (ps:List Value) (r:Bool) (i:Int):List AV:=ar 37 [(0, .lst false 35 n (ad 6 ps)),(2, .val (.bool r)),(3, .val (.int .i64 i))]
def pI (n:Nat) (ps:List Value) (r:Bool) (i:Int):Hp:= []
theorem Tw:aH Tryz.prog 36 qg=some (.loop (lb 36 qg)):=by kernel_rfl
def lj (ps:List Value) (j:Nat):Bool:=uz ps j ||yD ps j
theorem Ze (n:Nat) (ps:List Value) (r:Bool) (i:Nat) (hi:i < n) (ab:n≤9223372036854775807) (O:di ps i=true) (J:lj ps i=true):V.Ends Tryz.prog false 0 0 (lb 36 eA) (eM n ps r i) (dW n ps r i) .ret (eM n ps true i) (dW n ps true i):=by
 have G:=Fv bR n ps r i
 obtain ⟨k1,U⟩:=uS O
 unfold lj at J
 rw [Int.toNat_natCast,dT (show (i:Int) < (n:Int) by omega),dT (show (0:Int)≤(i:Int) by omega),k1,U] at G
 by_cases I:uz ps i=true
 ·have M:bR.gr (ah (ps.getD (i*6+1) undef)) (ah (ps.getD (i*6+2) undef))=true:=I
  rw [M] at G
  exact Ad G
 ·rw [Bool.not_eq_true] at I
  rw [I,Bool.false_or] at J
  have M:bR.gr (ah (ps.getD (i*6+1) undef)) (ah (ps.getD (i*6+2) undef))=false:=I
  have Z:bR.gr (ah (ps.getD (i*6+4) undef)) (ah (ps.getD (i*6+5) undef))=true:=J
  rw [M,Z] at G
  exact Ad G
def vg (n:Nat) (ps:List Value) (r:Bool) (i:Int):Prop:=i=0∧n≤9223372036854775807∧(∀ j,j < n→di ps j=true)∧∃ m,m < n∧(∀ j,j < m→lj ps j=false)∧lj ps m=true
def EF (n:Nat) (ps:List Value) (r:Bool) (i:Int) (ρ:Bool×Int):Prop:=ρ.1=true
theorem Zd (n:Nat) (ps:List Value) (r:Bool) (J:n≤9223372036854775807) (h:∀ j,j < n→di ps j=true) (m:Nat) (I:m < n) (M:∀ j,j < m→lj ps j=false) (hb:lj ps m=true) (k:Nat):∀ i,m=i+k→av Tryz.prog (lb 36 eA) (eM n ps r (i:Nat)) (dW n ps r (i:Nat)) .ret (eM n ps true (m:Int)) (dW n ps true (m:Int)):=by
 induction k with
 | zero=>
  intro i hi
  have:i=m:=by omega
  subst this
  exact .last (Ze n ps r i I J (h i I) hb) (by intro h;cases h)
 | succ k O=>
  intro i hi
  have G:=M i (by omega)
  unfold lj at G
  rw [Bool.or_eq_false_iff] at G
  exact .more (Mk n ps r i (by omega) J (h i (by omega)) G.1 G.2) (O (i+1) (by omega))
theorem aaB (n:Nat) (ps:List Value) (r:Bool) (i:Int) (h:vg n ps r i):∃ ρ:Bool×Int,av Tryz.prog (lb 36 qg) (qA n ps r i) (pI n ps r i) .ret (qA n ps ρ.1 ρ.2) (pI n ps ρ.1 ρ.2)∧EF n ps r i ρ:=by
 obtain ⟨rfl,J,h,m,I,G,hb⟩:=h
 exact ⟨(true,(m:Int)),Zd n ps r J h m I G hb m 0 (by omega),rfl⟩
def Hd (J:Nat→List Value→Bool→Int→Bool) (I:Nat→List Value→Bool→Int→Bool×Int) (T:List AV) (H:Hp):Option (Bool×Ex×List AV×Hp):=
 match al T 0,al T 2,al T 3,H with
 | .lst false 35 n G, .val (.bool r), .val (.int .i64 i), []=>bif T.length==37 then some (an 6 n G&&J n (ag 6 n G) r i, .ret,qA n (ag 6 n G) ((I n (ag 6 n G) r i).1) ((I n (ag 6 n G) r i).2),pI n (ag 6 n G) ((I n (ag 6 n G) r i).1) ((I n (ag 6 n G) r i).2)) else none
 | _,_,_,_=>none
abbrev JD:Type:=Nat→List Value→Bool→Int→Bool
abbrev I4:Type:=Nat→List Value→Bool→Int→Bool×Int
def Cb (G:JD) (I:I4) (L:aC):aC:=bp 0 36 qg [0,2,3] (Hd G I) L
def nn (n:Nat) (ps:List Value) (r:Bool) (i:Int):Bool×Int:=Classical.epsilon fun ρ=>av Tryz.prog (lb 36 qg) (qA n ps r i) (pI n ps r i) (.ret) (qA n ps (ρ.1) (ρ.2)) (pI n ps (ρ.1) (ρ.2))∧EF n ps r i ρ
theorem Oa (n:Nat) (ps:List Value) (r:Bool) (i:Int) (h:vg n ps r i):av Tryz.prog (lb 36 qg) (qA n ps r i) (pI n ps r i) (.ret) (qA n ps ((nn n ps r i).1) ((nn n ps r i).2)) (pI n ps ((nn n ps r i).1) ((nn n ps r i).2))∧EF n ps r i (nn n ps r i):=Classical.epsilon_spec (aaB n ps r i h)
def xW (n:Nat) (ps:List Value) (r:Bool) (i:Int):Bool:= @decide (vg n ps r i) (Classical.propDecidable _)
theorem Wa (n:Nat) (ps:List Value) (r:Bool) (i:Int) (h:vg n ps r i):xW n ps r i=true:= @decide_eq_true _ (Classical.propDecidable _) h
theorem agc (T:List AV) (H:Hp) (e:Ex) (J:List AV) (I:Hp) (h:Hd xW nn T H=some (true,e,J,I)):V.Ends Tryz.prog false 0 0 (.loop (lb 36 qg)) T H e J I:=by
 unfold Hd at h
 split at h
 ·rename_i n U r i Z ab aE
  rw [Bool.cond_eq_ite] at h
  split at h
  ·rename_i M
   rw [beq_iff_eq] at M
   simp only [Option.some.injEq,Prod.mk.injEq,Bool.and_eq_true,decide_eq_true_eq] at h
   obtain ⟨⟨k1,a6⟩,rfl,rfl,rfl⟩:=h
   have a7:= @of_decide_eq_true _ (Classical.propDecidable _) a6
   refine Ends.pre (Oa n (ag 6 n U) r i a7).1.ends (fun α B w D bx a1=>bq M (fun p O y G=> ?_) a1)
   simp only [List.mem_cons,List.not_mem_nil,or_false] at O
   rcases O with rfl | rfl | rfl
   ·rw [Z] at G;exact lE (by kernel_rfl) k1 G
   ·rw [ab] at G;exact G
   ·rw [aE] at G;exact G
  ·cases h
 ·cases h
theorem R8 {L:aC} (h:aB Tryz.prog L):aB Tryz.prog (Cb xW nn L):=h.bz Tw agc
end
end Go.Proofs.YtamcpiicmfielaaGreat.L
namespace Go.Proofs.YtamcpiicmfielaaGreat.L
open Go Go.V Go.RowKit Go.Proofs.YtamcpiicmfielaaGreat.Sp
open Go.Proofs (Tryz.prog)
noncomputable section
def bE (a b:AV):Prop:=∀ (B:Nat→Prop) (w:World) (y:Value),a.Rel Tryz.prog cw B w bo y→b.Rel Tryz.prog cw B w bo y
def bc (a b:List AV):Prop:=∀ (B:Nat→Prop) (w:World) (G:List Value),aj Tryz.prog cw B w a bo G→aj Tryz.prog cw B w b bo G
theorem bE.refl (a:AV):bE a a:=fun _ _ _ h=>h
theorem bc.refl (a:List AV):bc a a:=fun _ _ _ h=>h
theorem bc.cons {a b:AV} {l m:List AV} (h:bE a b) (k:bc l m):bc (a :: l) (b :: m):=fun B w M J=>by
 obtain ⟨y,zs,rfl,G,I⟩:=J
 exact ⟨y,zs,rfl,h _ _ _ G,k _ _ _ I⟩
theorem bE.agg {l m:List AV} (k:bc l m):bE (.agg l) (.agg m):=fun B w y G=>by
 obtain ⟨I,rfl,h⟩:=G
 exact ⟨I,rfl,k _ _ _ h⟩
theorem bE.tup {l m:List AV} (k:bc l m):bE (.tup l) (.tup m):=fun B w y G=>by
 obtain ⟨I,rfl,h⟩:=G
 exact ⟨I,rfl,k _ _ _ h⟩
theorem bE.row {fl:Bool} {t:TypeId} {sz n:Nat} {f:Nat→Nat→AV} (G:Tryz.prog.cellsOf t=sz) (h:an sz n f=true):bE (.lst fl t n f) (.lst false t n (ad sz (ag sz n f))):=fun B w y I=>lE G h I
theorem gV {g:FuncId} {f:TF} (a6:fB Tryz.prog g=true) (h:∀ args r,f args=some (true,r)→∃ (E:Env) (u d:Nat) (G:List AV) (v:AV),bf Tryz.prog E.C∧dh Tryz.prog E∧aF Tryz.prog E u d g G=some v∧bc args G∧bE v r):Entry Tryz.prog g f:=by
 intro args r a7 B w bD ab bx
 obtain ⟨E,u,d,G,v,aE,a1,I,J,M⟩:=h args r a7
 refine (rh aE a1 mixed a6 I B w bD ab (J B w _ bx)).mono ?_
 rintro e w' ⟨y,O,U,Z⟩
 exact ⟨y,O,U,M B w' y Z⟩
theorem bI (sz n:Nat) (f:Nat→Nat→AV):(ag sz n f).length=n*sz:=by simp [ag]
theorem bV (sz n:Nat) (vs:List Value):an sz n (ad sz vs)=true:=List.all_eq_true.2 fun i _=>rfl
theorem aZ {sz n:Nat} {vs:List Value} (h:vs.length=n*sz):ag sz n (ad sz vs)=vs:=by
 apply List.ext_getElem?
 intro i
 by_cases hi:i < n*sz
 ·unfold ag
  rw [List.getElem?_map,List.getElem?_range hi,List.getElem?_eq_getElem (show i < vs.length by omega)]
  show some (vs.getD (i / sz*sz+i % sz) undef)=_
  rw [Nat.div_add_mod',List.getD_eq_getElem?_getD,List.getElem?_eq_getElem (show i < vs.length by omega)];rfl
 ·rw [List.getElem?_eq_none (by rw [bI];omega),List.getElem?_eq_none (by omega)]
theorem yz {p:Nat→Bool} (n:Nat) (h:(List.range n).any p=true):∃ m,m < n∧(∀ j,j < m→p j=false)∧p m=true:=by
 induction n with
 | zero=>cases h
 | succ n O=>
  by_cases G:(List.range n).any p=true
  ·obtain ⟨m,U,I,J⟩:=O G
   exact ⟨m,by omega,I,J⟩
  ·rw [Bool.not_eq_true,List.any_eq_false] at G
   rw [List.range_succ,List.any_append,List.any_eq_false.2 G] at h
   simp only [List.any_cons,List.any_nil,Bool.or_false,Bool.false_or] at h
   exact ⟨n,by omega,fun j M=>by have:=G j (List.mem_range.2 M);rwa [Bool.not_eq_true] at this,h⟩
theorem xq {p:Nat→Bool} {n:Nat} (h:(List.range n).all p=true) {j:Nat} (G:j < n):p j=true:=List.all_eq_true.1 h j (List.mem_range.2 G)
theorem none_lt {p:Nat→Bool} {n:Nat} (h:¬ (List.range n).any p=true) {j:Nat} (G:j < n):p j=false:=by
 rw [Bool.not_eq_true,List.any_eq_false] at h
 have:=h j (List.mem_range.2 G)
 rwa [Bool.not_eq_true] at this
structure Tg where
 ly:Nat→List Value→Bool
 gp:Nat→List Value→Bool
def dp (n:Nat) (ps:List Value):Bool:=decide (n≤9223372036854775807)&&(List.range n).all (di ps)
def pG (n:Nat) (ps:List Value):Bool:=(List.range n).any (lj ps) ||(decide (10 < n)&&decide (n≤1000) ||decide (1005 < n))
def kX:Tg where
 ly:=dp
 gp:=pG
theorem zi {n:Nat} {ps:List Value} (h:kX.ly n ps=true):n≤9223372036854775807∧∀ j,j < n→di ps j=true:=by
 have h:(decide _&&(List.range n).all (di ps))=true:=h
 rw [Bool.and_eq_true,decide_eq_true_eq] at h
 exact ⟨h.1,fun j G=>xq h.2 G⟩
def Gz (T:Tg):TF:=fun args=>match args with
 | [.lst _ 35 n f]=>some (an 6 n f&&T.ly n (ag 6 n f), .val (.bool (T.gp n (ag 6 n f))))
 | _=>none
theorem YZ (G:JA) (I:I1) (n:Nat) (ps:List Value):aF Tryz.prog ⟨aK,au,B8 G I aq⟩ 10 10 36 [.lst false 35 n (ad 6 ps)]=
  (bif an 6 n (ad 6 ps)&&G n (ag 6 n (ad 6 ps)) false (0:Int) then (bif decide (10 < (↑n:Int)) then (bif decide ((↑n:Int)≤1000) then some (.val (.bool true)) else some (.val (.bool (decide (1005 < (↑n:Int)))))) else some (.val (.bool (decide (1005 < (↑n:Int)))))) else none):=by kernel_rfl
theorem Zc (G:JD) (I:I4) (n:Nat) (ps:List Value):aF Tryz.prog ⟨aK,au,Cb G I aq⟩ 10 10 36 [.lst false 35 n (ad 6 ps)]=
  (bif an 6 n (ad 6 ps)&&G n (ag 6 n (ad 6 ps)) false (0:Int) then some (.val (.bool ((I n (ag 6 n (ad 6 ps)) false (0:Int)).fst))) else none):=by kernel_rfl
theorem XF:Entry Tryz.prog 36 (Gz kX):=by
 refine gV (by kernel_rfl) (fun args r h=> ?_)
 unfold Gz at h
 split at h
 ·rename_i fl n f
  simp only [Option.some.injEq,Prod.mk.injEq,Bool.and_eq_true] at h
  obtain ⟨⟨a6,a7⟩,rfl⟩:=h
  have O:bc [.lst fl 35 n f] [.lst false 35 n (ad 6 (ag 6 n f))]:=bc.cons (bE.row (by kernel_rfl) a6) (bc.refl _)
  have Z:=bI 6 n f
  generalize ag 6 n f=ps at*
  obtain ⟨ab,aE⟩:=zi a7
  by_cases G:(List.range n).any (lj ps)=true
  ·have I:vg n ps false 0:= ⟨rfl,ab,aE,yz n G⟩
   refine ⟨⟨aK,au,Cb xW nn aq⟩,10,10,_,_,aJ _,(R8 aB.none).ok, ?_,O,bE.refl _⟩
   have e:kX.gp n ps=true:=by show pG n ps=true;unfold pG;rw [G];rfl
   have a1:(nn n ps false 0).fst=true:=(Oa _ _ _ _ I).2
   rw [Zc,bV,aZ Z,Wa _ _ _ _ I,e,a1];rfl
  ·have I:vb n ps false 0:= ⟨rfl,ab,fun j U=> ⟨aE j U,by have:=none_lt G U;unfold lj at this;rw [Bool.or_eq_false_iff] at this;exact this⟩⟩
   refine ⟨⟨aK,au,B8 xT r7 aq⟩,10,10,_,_,aJ _,(RW aB.none).ok, ?_,O,bE.refl _⟩
   have e:kX.gp n ps=(decide (10 < n)&&decide (n≤1000) ||decide (1005 < n)):=by show pG n ps=_;unfold pG;rw [Bool.eq_false_iff.2 G];rfl
   rw [YZ,bV,aZ Z,V6 _ _ _ _ I,e]
   by_cases J:10 < n
   ·rw [decide_eq_true J,dT (show (10:Int) < (n:Int) by omega)]
    by_cases M:n≤1000
    ·rw [decide_eq_true M,dT (show (n:Int)≤1000 by omega)];rfl
    ·rw [decide_eq_false M,dF (show ¬ (n:Int)≤1000 by omega)]
     rw [show decide ((1005:Int) < (n:Int))=decide (1005 < n) from decide_eq_decide.2 (by omega)];rfl
   ·rw [decide_eq_false J,dF (show ¬ (10:Int) < (n:Int) by omega)]
    rw [show decide ((1005:Int) < (n:Int))=decide (1005 < n) from decide_eq_decide.2 (by omega)];rfl
 ·cases h
end
end Go.Proofs.YtamcpiicmfielaaGreat.L
namespace Go.Proofs.YtamcpiicmfielaaGreat.L
open Go Go.V Go.RowKit Go.Proofs.YtamcpiicmfielaaGreat.Sp
open Go.Proofs (Tryz.prog)
noncomputable section
def dd (ps:List Value) (j:Nat):Bool:=di ps j&&(bR.ok (ah (ps.getD (j*6+1) undef)) (ah (ps.getD (j*6+2) undef))&&bR.ok (ah (ps.getD (j*6+4) undef)) (ah (ps.getD (j*6+5) undef)))
def mV (ps:List Value) (j:Nat):Int:=bR.kv (az (ps.getD (j*6+0) undef)) (ah (ps.getD (j*6+1) undef)) (ah (ps.getD (j*6+2) undef)) (az (ps.getD (j*6+3) undef)) (ah (ps.getD (j*6+4) undef)) (ah (ps.getD (j*6+5) undef))
def po (ps:List Value) (j:Nat):Bool:= !decide (mV ps j=0)
theorem nb {ps:List Value} {j:Nat} (h:dd ps j=true):(aY (ps.getD (j*6+0) undef) (ps.getD (j*6+1) undef) (ps.getD (j*6+2) undef)=true∧aY (ps.getD (j*6+3) undef) (ps.getD (j*6+4) undef) (ps.getD (j*6+5) undef)=true)∧bR.ok (ah (ps.getD (j*6+1) undef)) (ah (ps.getD (j*6+2) undef))=true∧bR.ok (ah (ps.getD (j*6+4) undef)) (ah (ps.getD (j*6+5) undef))=true:=by
 unfold dd at h
 rw [Bool.and_eq_true,Bool.and_eq_true] at h
 exact ⟨uS h.1,h.2⟩
end
end Go.Proofs.YtamcpiicmfielaaGreat.L
namespace Go.Proofs.YtamcpiicmfielaaGreat.L
open Go Go.V Go.RowKit Go.Proofs.YtamcpiicmfielaaGreat.Sp
open Go.Proofs (Tryz.prog)
noncomputable section
theorem oy (b:Bool) (n d:BA):aY (.bool b) (.string n) (.string d)=true:=rfl
def dD (q:Rat):List Value:= [.bool (af.qn q), .string (af.qs q), .string (af.qd q)]
def cp (n:Nat) (q:Nat→Rat):List Value:=(List.range n).flatMap fun i=>dD (q i)
theorem KU (n:Nat) (q:Nat→Rat):cp (n+1) q=cp n q ++ dD (q n):=by
 unfold cp
 rw [List.range_succ,List.flatMap_append]
 simp
theorem iE (n:Nat) (q:Nat→Rat):(cp n q).length=n*3:=by
 induction n with
 | zero=>rfl
 | succ n G=>rw [KU,List.length_append,G];show n*3+3=_;omega
theorem nZ (n:Nat) (q:Nat→Rat) {j k:Nat} (I:j < n) (J:k < 3):(cp n q).getD (j*3+k) undef=(dD (q j)).getD k undef:=by
 induction n with
 | zero=>omega
 | succ n G=>
  rw [KU,List.getD_eq_getElem?_getD]
  by_cases h:j < n
  ·rw [List.getElem?_append_left (by rw [iE];omega),← List.getD_eq_getElem?_getD]
   exact G h
  ·have:j=n:=by omega
   subst this
   rw [List.getElem?_append_right (by rw [iE];omega),iE,Nat.add_sub_cancel_left,← List.getD_eq_getElem?_getD]
theorem UI (n:Nat) (q:Nat→Rat) {j:Nat} (G:j < n):(cp n q).getD (j*3+0) undef= .bool (af.qn (q j)):=nZ n q G (by decide)
theorem UL (n:Nat) (q:Nat→Rat) {j:Nat} (G:j < n):(cp n q).getD (j*3+1) undef= .string (af.qs (q j)):=nZ n q G (by decide)
theorem UK (n:Nat) (q:Nat→Rat) {j:Nat} (G:j < n):(cp n q).getD (j*3+2) undef= .string (af.qd (q j)):=nZ n q G (by decide)
theorem UJ {n:Nat} {q q':Nat→Rat} (h:∀ i,i < n→q i=q' i):cp n q=cp n q':=by
 unfold cp
 rw [List.flatMap_def,List.flatMap_def]
 congr 1
 exact List.map_congr_left fun i hi=>by rw [h i (List.mem_range.1 hi)]
def wa (vs:List Value) (o:Nat):Rat:=af.qv (az (vs.getD (o+0) undef)) (ah (vs.getD (o+1) undef)) (ah (vs.getD (o+2) undef))
theorem acJ (n:Nat) (q:Nat→Rat) {j:Nat} (G:j < n):wa (cp n q) (j*3)=q j:=by
 unfold wa
 rw [UI n q G,UL n q G,UK n q G]
 exact fK _
def px (ps:List Value) (j:Nat):Rat:=wa ps (j*6)
def py (ps:List Value) (j:Nat):Rat:=af.qv (az (ps.getD (j*6+3) undef)) (ah (ps.getD (j*6+4) undef)) (ah (ps.getD (j*6+5) undef))
end
end Go.Proofs.YtamcpiicmfielaaGreat.L
