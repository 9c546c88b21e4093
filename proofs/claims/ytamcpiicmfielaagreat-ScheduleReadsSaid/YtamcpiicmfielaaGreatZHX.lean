import Derived.Test.YtamcpiicmfielaaGreatZV2
import Derived.Test.YtamcpiicmfielaaGreatZQA
import Derived.Test.YtamcpiicmfielaaGreatZUA
import Derived.Test.YtamcpiicmfielaaGreatZMD
set_option linter.unusedVariables false
set_option linter.unusedSimpArgs false
namespace Go.Proofs.YtamcpiicmfielaaGreat.L
open Go Go.V Go.RowKit Go.Proofs.YtamcpiicmfielaaGreat.Sp
open Go.Proofs (Tryz.prog)
noncomputable section
abbrev BA:Type:=ByteArray
structure Hg where
 gr:BA→BA→Bool
 kv:Bool→BA→BA→Bool→BA→BA→Int
 ok:BA→BA→Bool
 ds:Rat→Rat→Rat→Rat→Rat
 st:Rat→Rat→Int→Int
 yh:BA→BA→Bool
 pos:Rat→Rat→Bool
def p1 (f:Bool→BA→BA→Option (Bool×AV)):TF:=fun args=>match args with
 | [.agg [.val (.bool b), .val (.string n), .val (.string d)]]=>f b n d
 | _=>none
def p2 (f:Bool→BA→BA→Bool→BA→BA→Option (Bool×AV)):TF:=fun args=>match args with
 | [.agg [.val (.bool b), .val (.string n), .val (.string d), .val (.bool c), .val (.string m), .val (.string e)]]=>f b n d c m e
 | _=>none
def p3 (f:Bool→BA→BA→Bool→BA→BA→Bool→BA→BA→Bool→BA→BA→Option (Bool×AV)):TF:=fun args=>match args with
 | [.agg [.val (.bool b), .val (.string n), .val (.string d), .val (.bool c), .val (.string m), .val (.string e)], .agg [.val (.bool j), .val (.string N), .val (.string I), .val (.bool G), .val (.string M), .val (.string J)]]=>f b n d c m e j N I G M J
 | _=>none
def p4 (f:Bool→BA→BA→Bool→BA→BA→Int→Option (Bool×AV)):TF:=fun args=>match args with
 | [.agg [.val (.bool b), .val (.string n), .val (.string d)], .agg [.val (.bool c), .val (.string m), .val (.string e)], .val (.int .i64 g)]=>f b n d c m e g
 | _=>none
def yZ (K:Hg):TF:=p1 fun b n d=>some (true, .val (.bool (K.gr n d)))
def rM (K:Hg):TF:=p2 fun b n d c m e=>some (K.ok n d&&K.ok m e, .val (.int .i64 (K.kv b n d c m e)))
def FN (K:Hg) (j:Qg):TF:=p3 fun b n d c m e N M G O J I=>some (K.ok n d&&K.ok m e&&K.ok M G&&K.ok J I,j.rat (K.ds (j.qv b n d) (j.qv c m e) (j.qv N M G) (j.qv O J I)))
def upN (q:Nat):Nat:=if bF q*bF q=q then bF q else bF q+1
def stN (x s:Rat) (g:Int):Int:=let q:=(x*((g:Rat)*(g:Rat)) / (s*s)).ceil;max 1 ((upN q.natAbs:Nat):Int)
def a8:Hg where
 gr n d:=decide (12 < n.size) ||decide (12 < d.size)
 kv b n d c m e:=bif decide (ad.ck b n d=0)&&decide (ad.ck c m e=0) then 0 else 1
 ok n d:=decide (n.size≤12)&&decide (d.size≤12)
 ds x y u v:=(x - u)*(x - u)+(y - v)*(y - v)
 st:=stN
 yh n d:=decide (n.size≤200)&&decide (d.size≤200)
 pos x s:=decide (0≤x)&&decide (0 < s)
end
end Go.Proofs.YtamcpiicmfielaaGreat.L
namespace Go.Proofs.YtamcpiicmfielaaGreat.L
open Go Go.V Go.RowKit Go.Proofs.YtamcpiicmfielaaGreat.Sp
open Go.Proofs (Tryz.prog)
noncomputable section
abbrev w3 (b:Bool) (n d:BA):AV:= .agg [.val (.bool b), .val (.string n), .val (.string d)]
abbrev w6 (b:Bool) (n d:BA) (c:Bool) (m e:BA):AV:= .agg [.val (.bool b), .val (.string n), .val (.string d), .val (.bool c), .val (.string m), .val (.string e)]
def oc (j:Qg):FuncId→TF:=an 31 (pJ j) (an 30 (rF j) (an 29 (nX j) aF))
def rY (j:Qg):FuncId→TF:=an 44 (rG j) (an 47 (vH j) (an 56 (vE j) aF))
theorem WN (b:Bool) (n d:BA):aD Tryz.prog ⟨aF,ar,aq⟩ 10 10 8 [w3 b n d]=
  (bif decide ((12:Int) < (↑(ByteArray.size n):Int)) then some (.val (.bool true)) else some (.val (.bool (decide ((12:Int) < (↑(ByteArray.size d):Int)))))):=by kernel_rfl
theorem aei (j:Qg) (b c:Bool) (n d m e:BA):aD Tryz.prog ⟨an 49 (ma j) aF,ar,aq⟩ 10 10 57 [w6 b n d c m e]=
  (bif j.ok n d then (bif !decide (j.ck b n d=(0:Int)) then some (.val (.int .i64 1)) else (bif j.ok m e then (bif !decide (j.ck c m e=(0:Int)) then some (.val (.int .i64 1)) else some (.val (.int .i64 0))) else none)) else none):=by kernel_rfl
theorem abo (j:Qg) (b c:Bool) (n d m e:BA):aD Tryz.prog ⟨an 51 (jb j fun b n d=> .val (.int .i64 (j.ck b n d))) aF,ar,aq⟩ 10 10 58 [w6 b n d c m e]=
  (bif j.aL n d then (bif !decide (j.ck b n d=(0:Int)) then some (.val (.int .i64 1)) else (bif j.aL m e then (bif !decide (j.ck c m e=(0:Int)) then some (.val (.int .i64 1)) else some (.val (.int .i64 0))) else none)) else none):=by kernel_rfl
theorem aaa (j:Qg) (b c ab a0:Bool) (n d m e U N S O:BA):letI G:=(j.qv b n d - j.qv ab U N);letI J:=(j.qv (j.qn G) (j.qs G) (j.qd G)*j.qv (j.qn G) (j.qs G) (j.qd G));letI I:=(j.qv c m e - j.qv a0 S O);letI M:=(j.qv (j.qn I) (j.qs I) (j.qd I)*j.qv (j.qn I) (j.qs I) (j.qd I));letI Z:=(j.qv (j.qn J) (j.qs J) (j.qd J)+j.qv (j.qn M) (j.qs M) (j.qd M));
  (aD Tryz.prog ⟨rY j,ar,aq⟩ 10 10 46 [w6 b n d c m e,w6 ab U N a0 S O]=(bif j.aL n d&&j.aL U N then (bif j.aL m e&&j.aL S O then (bif j.aL (j.qs G) (j.qd G)&&j.aL (j.qs G) (j.qd G) then (bif j.aL (j.qs I) (j.qd I)&&j.aL (j.qs I) (j.qd I) then (bif j.aL (j.qs J) (j.qd J)&&j.aL (j.qs M) (j.qd M) then some (.agg [(.val (.bool (j.qn Z))),(.val (.string (j.qs Z))),(.val (.string (j.qd Z)))]) else none) else none) else none) else none) else none)):=by kernel_rfl
end
end Go.Proofs.YtamcpiicmfielaaGreat.L
namespace Go.Proofs.YtamcpiicmfielaaGreat.L
open Go Go.V Go.RowKit Go.Proofs.YtamcpiicmfielaaGreat.Sp
open Go.Proofs (Tryz.prog)
noncomputable section
theorem qM {n d:BA} (h:a8.ok n d=true):n.size≤12∧d.size≤12:=by
 have j:(decide (n.size≤12)&&decide (d.size≤12))=true:=h
 rwa [Bool.and_eq_true,decide_eq_true_eq,decide_eq_true_eq] at j
theorem lD {n d:BA} (h:a8.ok n d=true):ad.ok n d=true:=DQ (by have:=qM h;omega) (by have:=qM h;omega)
theorem lE {n d:BA} (h:a8.ok n d=true):ad.aL n d=true:=u4 (by have:=qM h;omega) (by have:=qM h;omega)
theorem fG {b:Bool} {n d:BA} (h:a8.ok n d=true):bg (ad.qv b n d)≤12:=by
 have:=nT b n d
 have:=qM h
 omega
theorem ta:Entry Tryz.prog 8 (yZ a8):=by
 refine aX (E:= ⟨aF,ar,aq⟩) (u:=10) (d:=10) (aH _) aK mixed (by kernel_rfl) (fun args r h=> ?_)
 unfold yZ p1 at h
 split at h
 ·rename_i b n d
  simp only [Option.some.injEq,Prod.mk.injEq,true_and] at h
  subst h
  rw [WN]
  have j:decide ((12:Int) < (n.size:Int))=decide (12 < n.size):=decide_eq_decide.2 (by omega)
  have G:decide ((12:Int) < (d.size:Int))=decide (12 < d.size):=decide_eq_decide.2 (by omega)
  have I:a8.gr n d=(decide (12 < n.size) ||decide (12 < d.size)):=rfl
  rw [j,G,I]
  cases decide (12 < n.size) <;> rfl
 ·cases h
theorem CK (b c:Bool) (n d m e:BA):a8.kv b n d c m e=bif decide (ad.ck b n d=0)&&decide (ad.ck c m e=0) then 0 else 1:=rfl
theorem Wd:Entry Tryz.prog 57 (rM a8):=by
 refine aX (E:= ⟨an 49 (ma ad) aF,ar,aq⟩) (u:=10) (d:=10) ((aH _).add oz) aK mixed (by kernel_rfl) (fun args r h=> ?_)
 unfold rM p2 at h
 split at h
 ·rename_i b n d c m e
  simp only [Option.some.injEq,Prod.mk.injEq,Bool.and_eq_true] at h
  obtain ⟨⟨j,G⟩,rfl⟩:=h
  rw [aei,lD j,lD G,CK]
  cases decide (ad.ck b n d=0) <;> cases decide (ad.ck c m e=0) <;> rfl
 ·cases h
theorem VZ:Entry Tryz.prog 58 (rM a8):=by
 refine aX (E:= ⟨an 51 (jb ad fun b n d=> .val (.int .i64 (ad.ck b n d))) aF,ar,aq⟩) (u:=10) (d:=10) ((aH _).add xy) aK mixed (by kernel_rfl) (fun args r h=> ?_)
 unfold rM p2 at h
 split at h
 ·rename_i b n d c m e
  simp only [Option.some.injEq,Prod.mk.injEq,Bool.and_eq_true] at h
  obtain ⟨⟨j,G⟩,rfl⟩:=h
  rw [abo,lE j,lE G,CK]
  cases decide (ad.ck b n d=0) <;> cases decide (ad.ck c m e=0) <;> rfl
 ·cases h
theorem Vd (x y u v:Rat):a8.ds x y u v=(x - u)*(x - u)+(y - v)*(y - v):=rfl
theorem zL:bb Tryz.prog (oc ad):=(((aH _).add oy).add tb).add ql
theorem G8:bb Tryz.prog (rY ad):=(((aH _).add qm).add td).add tg
theorem Vf {x y u v:Rat} (N:bg x≤12) (O:bg y≤12) (S:bg u≤12) (U:bg v≤12):bg (x - u)≤25∧bg (y - v)≤25∧bg ((x - u)*(x - u))≤50∧bg ((y - v)*(y - v))≤50∧bg ((x - u)*(x - u)+(y - v)*(y - v))≤101:=by
 have j:=gv x u
 have G:=gv y v
 have I:=gu (x - u) (x - u)
 have J:=gu (y - v) (y - v)
 have M:=yT ((x - u)*(x - u)) ((y - v)*(y - v))
 omega
theorem V0:Entry Tryz.prog 46 (FN a8 ad):=by
 refine aX (E:= ⟨rY ad,ar,aq⟩) (u:=10) (d:=10) G8 aK mixed (by kernel_rfl) (fun args r h=> ?_)
 unfold FN p3 at h
 split at h
 ·rename_i b n d c m e j ab I G Z J
  simp only [Option.some.injEq,Prod.mk.injEq,Bool.and_eq_true] at h
  obtain ⟨⟨⟨⟨M,N⟩,O⟩,S⟩,rfl⟩:=h
  have U:=aaa ad b c j G n d m e ab I Z J
  have a4:=lE M
  have a5:=lE N
  have a6:=lE O
  have a7:=lE S
  obtain ⟨bx,bD,b0,b1,b2⟩:=Vf (fG (b:=b) M) (fG (b:=c) N) (fG (b:=j) O) (fG (b:=G) S)
  rw [Vd]
  generalize ad.qv b n d=x at*
  generalize ad.qv c m e=y at*
  generalize ad.qv j ab I=u at*
  generalize ad.qv G Z J=v at*
  have a0:=dz (q:=x - u) (by omega)
  have a1:=dz (q:=y - v) (by omega)
  have a2:=dz (q:=(x - u)*(x - u)) (by omega)
  have a3:=dz (q:=(y - v)*(y - v)) (by omega)
  simp only [gT,a4,a5,a6,a7,a0,a1,a2,a3,Bool.and_self,cond_true] at U
  exact U
 ·cases h
end
end Go.Proofs.YtamcpiicmfielaaGreat.L
namespace Go.Proofs.YtamcpiicmfielaaGreat.L
open Go Go.V Go.RowKit Go.Proofs.YtamcpiicmfielaaGreat.Sp
open Go.Proofs (Tryz.prog)
noncomputable section
theorem oV {z:Int} (h:bs z.natAbs≤1000):aa.ok (aa.ms z)=true:=bA (by omega)
end
end Go.Proofs.YtamcpiicmfielaaGreat.L
namespace Go.Proofs.YtamcpiicmfielaaGreat.L
open Go Go.V Go.RowKit Go.Proofs.YtamcpiicmfielaaGreat.Sp
open Go.Proofs (Tryz.prog)
noncomputable section
def wa (K:Hg):Env:= ⟨an 8 (gR (yZ K)) aF,ar,aq⟩
def fi (ps:List Value) (j:Nat):Bool:=aS (ps.getD (j*6+0) undef) (ps.getD (j*6+1) undef) (ps.getD (j*6+2) undef)&&aS (ps.getD (j*6+3) undef) (ps.getD (j*6+4) undef) (ps.getD (j*6+5) undef)
def tw (ps:List Value) (j:Nat):Bool:=a8.gr (ah (ps.getD (j*6+1) undef)) (ah (ps.getD (j*6+2) undef))
def xM (ps:List Value) (j:Nat):Bool:=a8.gr (ah (ps.getD (j*6+4) undef)) (ah (ps.getD (j*6+5) undef))
theorem yc {ps:List Value} {j:Nat} (h:fi ps j=true):aS (ps.getD (j*6+0) undef) (ps.getD (j*6+1) undef) (ps.getD (j*6+2) undef)=true∧aS (ps.getD (j*6+3) undef) (ps.getD (j*6+4) undef) (ps.getD (j*6+5) undef)=true:=by
 unfold fi at h
 rwa [Bool.and_eq_true] at h
abbrev dU:List Bool:= [false,true,false,true]
def ek (n:Nat) (ps:List Value) (r:Bool) (i:Int):List AV:=av 37 [(0, .lst false 35 n (ag 6 ps)),(2, .val (.bool r)),(3, .val (.int .i64 i))]
def dK (n:Nat) (ps:List Value) (r:Bool) (i:Int):Hp:= []
theorem Re:aJ Tryz.prog 36 dU=some (.loop (lb 36 dU)):=by kernel_rfl
theorem SQ:aJ Tryz.prog 36 (false :: dU)=some (lb 36 dU):=by kernel_rfl
theorem Ei (K:Hg) (n:Nat) (ps:List Value) (r:Bool) (i:Int):
  (aN Tryz.prog (wa K) 36 [0,2,3] (lb 36 dU) (false :: dU) (ek n ps r i) (dK n ps r i)=(bif decide (i < (↑n:Int)) then (bif decide ((0:Int)≤i)&&decide (i < (↑n:Int)) then (bif aS (ps.getD (i.toNat*(6:Nat)+(0:Nat)) undef) (ps.getD (i.toNat*(6:Nat)+(1:Nat)) undef) (ps.getD (i.toNat*(6:Nat)+(2:Nat)) undef)&&true then (bif K.gr (ah (ps.getD (i.toNat*(6:Nat)+(1:Nat)) undef)) (ah (ps.getD (i.toNat*(6:Nat)+(2:Nat)) undef)) then some (.ret,av 37 [(0,(.lst false 35 n (ag (6:Nat) ps))),(2,(.val (.bool true))),(3,(.val (.int .i64 i)))], []) else (bif decide ((0:Int)≤i)&&decide (i < (↑n:Int)) then (bif aS (ps.getD (i.toNat*(6:Nat)+(3:Nat)) undef) (ps.getD (i.toNat*(6:Nat)+(4:Nat)) undef) (ps.getD (i.toNat*(6:Nat)+(5:Nat)) undef)&&true then (bif K.gr (ah (ps.getD (i.toNat*(6:Nat)+(4:Nat)) undef)) (ah (ps.getD (i.toNat*(6:Nat)+(5:Nat)) undef)) then some (.ret,av 37 [(0,(.lst false 35 n (ag (6:Nat) ps))),(2,(.val (.bool true))),(3,(.val (.int .i64 i)))], []) else (bif aj IntKind.i64 (i+(1:Int)) then some (.normal,av 37 [(0,(.lst false 35 n (ag (6:Nat) ps))),(2,(.val (.bool r))),(3,(.val (.int .i64 (i+(1:Int)))))], []) else none)) else none) else none)) else none) else none) else some ((.exit 0),av 37 [(0,(.lst false 35 n (ag (6:Nat) ps))),(2,(.val (.bool r))),(3,(.val (.int .i64 i)))], []))):=by kernel_rfl
theorem yP {n:Nat} {ps:List Value} {r:Bool} {i:Int} {e:Ex} {T:List AV} {H:Hp} (h:aN Tryz.prog (wa a8) 36 [0,2,3] (lb 36 dU) (false :: dU) (ek n ps r i) (dK n ps r i)=some (e,T,H)):V.Ends Tryz.prog false 0 0 (lb 36 dU) (ek n ps r i) (dK n ps r i) e T H:=
 bw ((aH _).add ta.gR) aK mixed SQ h
theorem KN (n:Nat) (ps:List Value) (r:Bool) (i:Nat) (S:i < n) (U:n≤9223372036854775807) (G:fi ps i=true) (I:tw ps i=false) (J:xM ps i=false):V.Ends Tryz.prog false 0 0 (lb 36 dU) (ek n ps r i) (dK n ps r i) .normal (ek n ps r ((i+1:Nat):Int)) (dK n ps r ((i+1:Nat):Int)):=by
 have j:=Ei a8 n ps r i
 obtain ⟨k1,M⟩:=yc G
 have N:a8.gr (ah (ps.getD (i*6+1) undef)) (ah (ps.getD (i*6+2) undef))=false:=I
 have O:a8.gr (ah (ps.getD (i*6+4) undef)) (ah (ps.getD (i*6+5) undef))=false:=J
 rw [Int.toNat_natCast,dT (show (i:Int) < (n:Int) by omega),dT (show (0:Int)≤(i:Int) by omega),k1,M,N,O,aO (z:=(i:Int)+1) (by omega)] at j
 exact yP j
def uc (n:Nat) (ps:List Value) (r:Bool) (i:Int):Prop:=i=0∧n≤9223372036854775807∧∀ j,j < n→fi ps j=true∧tw ps j=false∧xM ps j=false
def Dh (n:Nat) (ps:List Value) (r:Bool) (i:Int) (ρ:Int):Prop:=True
theorem WM (n:Nat) (ps:List Value) (r:Bool) (N:n≤9223372036854775807) (h:∀ j,j < n→fi ps j=true∧tw ps j=false∧xM ps j=false) (k:Nat):∀ i,n=i+k→aw Tryz.prog (lb 36 dU) (ek n ps r (i:Nat)) (dK n ps r (i:Nat)) (.exit 0) (ek n ps r (n:Int)) (dK n ps r (n:Int)):=by
 induction k with
 | zero=>
  intro i M
  have:i=n:=by omega
  subst this
  refine .last (yP ?_) (by intro h;cases h)
  rw [Ei,dF (show ¬ ((i:Nat):Int) < (i:Int) by omega)]
  rfl
 | succ k O=>
  intro i M
  obtain ⟨G,I,J⟩:=h i (by omega)
  exact .more (KN n ps r i (by omega) N G I J) (O (i+1) (by omega))
theorem XL (n:Nat) (ps:List Value) (r:Bool) (i:Int) (h:uc n ps r i):∃ ρ:Int,aw Tryz.prog (lb 36 dU) (ek n ps r i) (dK n ps r i) (.exit 0) (ek n ps r ρ) (dK n ps r ρ)∧Dh n ps r i ρ:=by
 obtain ⟨rfl,j,h⟩:=h
 exact ⟨(n:Int),WM n ps r j h n 0 (by omega),trivial⟩
def F0 (I:Nat→List Value→Bool→Int→Bool) (G:Nat→List Value→Bool→Int→Int) (T:List AV) (H:Hp):Option (Bool×Ex×List AV×Hp):=
 match al T 0,al T 2,al T 3,H with
 | .lst false 35 n j, .val (.bool r), .val (.int .i64 i), []=>bif T.length==37 then some (au 6 n j&&I n (af 6 n j) r i, .exit 0,ek n (af 6 n j) r ((G n (af 6 n j) r i)),dK n (af 6 n j) r ((G n (af 6 n j) r i))) else none
 | _,_,_,_=>none
abbrev Iq:Type:=Nat→List Value→Bool→Int→Bool
abbrev HM:Type:=Nat→List Value→Bool→Int→Int
def AT (j:Iq) (G:HM) (L:aE):aE:=bp 0 36 dU [0,2,3] (F0 j G) L
def qU (n:Nat) (ps:List Value) (r:Bool) (i:Int):Int:=Classical.epsilon fun ρ=>aw Tryz.prog (lb 36 dU) (ek n ps r i) (dK n ps r i) (.exit 0) (ek n ps r (ρ)) (dK n ps r (ρ))∧Dh n ps r i ρ
theorem Zj (n:Nat) (ps:List Value) (r:Bool) (i:Int) (h:uc n ps r i):aw Tryz.prog (lb 36 dU) (ek n ps r i) (dK n ps r i) (.exit 0) (ek n ps r ((qU n ps r i))) (dK n ps r ((qU n ps r i)))∧Dh n ps r i (qU n ps r i):=Classical.epsilon_spec (XL n ps r i h)
def wW (n:Nat) (ps:List Value) (r:Bool) (i:Int):Bool:= @decide (uc n ps r i) (Classical.propDecidable _)
theorem TM (n:Nat) (ps:List Value) (r:Bool) (i:Int) (h:uc n ps r i):wW n ps r i=true:= @decide_eq_true _ (Classical.propDecidable _) h
theorem adg (T:List AV) (H:Hp) (e:Ex) (I:List AV) (G:Hp) (h:F0 wW qU T H=some (true,e,I,G)):V.Ends Tryz.prog false 0 0 (.loop (lb 36 dU)) T H e I G:=by
 unfold F0 at h
 split at h
 ·rename_i n N r i O S U
  rw [Bool.cond_eq_ite] at h
  split at h
  ·rename_i J
   rw [beq_iff_eq] at J
   simp only [Option.some.injEq,Prod.mk.injEq,Bool.and_eq_true,decide_eq_true_eq] at h
   obtain ⟨⟨k1,ab⟩,rfl,rfl,rfl⟩:=h
   have a0:= @of_decide_eq_true _ (Classical.propDecidable _) ab
   refine Ends.pre (Zj n (af 6 n N) r i a0).1.ends (fun α B w D a1 Z=>bm J (fun p M y j=> ?_) Z)
   simp only [List.mem_cons,List.not_mem_nil,or_false] at M
   rcases M with rfl | rfl | rfl
   ·rw [O] at j;exact kU (by kernel_rfl) k1 j
   ·rw [S] at j;exact j
   ·rw [U] at j;exact j
  ·cases h
 ·cases h
theorem P7 {L:aE} (h:aB Tryz.prog L):aB Tryz.prog (AT wW qU L):=h.br Re adg
end
end Go.Proofs.YtamcpiicmfielaaGreat.L
namespace Go.Proofs.YtamcpiicmfielaaGreat.L
open Go Go.V Go.RowKit Go.Proofs.YtamcpiicmfielaaGreat.Sp
open Go.Proofs (Tryz.prog)
noncomputable section
abbrev oX:List Bool:= [false,true,false,true]
def pq (n:Nat) (ps:List Value) (r:Bool) (i:Int):List AV:=av 37 [(0, .lst false 35 n (ag 6 ps)),(2, .val (.bool r)),(3, .val (.int .i64 i))]
def oH (n:Nat) (ps:List Value) (r:Bool) (i:Int):Hp:= []
theorem Ri:aJ Tryz.prog 36 oX=some (.loop (lb 36 oX)):=by kernel_rfl
def kI (ps:List Value) (j:Nat):Bool:=tw ps j ||xM ps j
theorem W0 (n:Nat) (ps:List Value) (r:Bool) (i:Nat) (S:i < n) (U:n≤9223372036854775807) (M:fi ps i=true) (I:kI ps i=true):V.Ends Tryz.prog false 0 0 (lb 36 dU) (ek n ps r i) (dK n ps r i) .ret (ek n ps true i) (dK n ps true i):=by
 have j:=Ei a8 n ps r i
 obtain ⟨k1,N⟩:=yc M
 unfold kI at I
 rw [Int.toNat_natCast,dT (show (i:Int) < (n:Int) by omega),dT (show (0:Int)≤(i:Int) by omega),k1,N] at j
 by_cases G:tw ps i=true
 ·have J:a8.gr (ah (ps.getD (i*6+1) undef)) (ah (ps.getD (i*6+2) undef))=true:=G
  rw [J] at j
  exact yP j
 ·rw [Bool.not_eq_true] at G
  rw [G,Bool.false_or] at I
  have J:a8.gr (ah (ps.getD (i*6+1) undef)) (ah (ps.getD (i*6+2) undef))=false:=G
  have O:a8.gr (ah (ps.getD (i*6+4) undef)) (ah (ps.getD (i*6+5) undef))=true:=I
  rw [J,O] at j
  exact yP j
def uh (n:Nat) (ps:List Value) (r:Bool) (i:Int):Prop:=i=0∧n≤9223372036854775807∧(∀ j,j < n→fi ps j=true)∧∃ m,m < n∧(∀ j,j < m→kI ps j=false)∧kI ps m=true
def Dk (n:Nat) (ps:List Value) (r:Bool) (i:Int) (ρ:Bool×Int):Prop:=ρ.1=true
theorem WZ (n:Nat) (ps:List Value) (r:Bool) (J:n≤9223372036854775807) (h:∀ j,j < n→fi ps j=true) (m:Nat) (I:m < n) (N:∀ j,j < m→kI ps j=false) (M:kI ps m=true) (k:Nat):∀ i,m=i+k→aw Tryz.prog (lb 36 dU) (ek n ps r (i:Nat)) (dK n ps r (i:Nat)) .ret (ek n ps true (m:Int)) (dK n ps true (m:Int)):=by
 induction k with
 | zero=>
  intro i O
  have:i=m:=by omega
  subst this
  exact .last (W0 n ps r i I J (h i I) M) (by intro h;cases h)
 | succ k S=>
  intro i O
  have G:=N i (by omega)
  unfold kI at G
  rw [Bool.or_eq_false_iff] at G
  exact .more (KN n ps r i (by omega) J (h i (by omega)) G.1 G.2) (S (i+1) (by omega))
theorem XP (n:Nat) (ps:List Value) (r:Bool) (i:Int) (h:uh n ps r i):∃ ρ:Bool×Int,aw Tryz.prog (lb 36 oX) (pq n ps r i) (oH n ps r i) .ret (pq n ps ρ.1 ρ.2) (oH n ps ρ.1 ρ.2)∧Dk n ps r i ρ:=by
 obtain ⟨rfl,J,h,m,I,G,j⟩:=h
 exact ⟨(true,(m:Int)),WZ n ps r J h m I G j m 0 (by omega),rfl⟩
def F4 (I:Nat→List Value→Bool→Int→Bool) (G:Nat→List Value→Bool→Int→Bool×Int) (T:List AV) (H:Hp):Option (Bool×Ex×List AV×Hp):=
 match al T 0,al T 2,al T 3,H with
 | .lst false 35 n j, .val (.bool r), .val (.int .i64 i), []=>bif T.length==37 then some (au 6 n j&&I n (af 6 n j) r i, .ret,pq n (af 6 n j) ((G n (af 6 n j) r i).1) ((G n (af 6 n j) r i).2),oH n (af 6 n j) ((G n (af 6 n j) r i).1) ((G n (af 6 n j) r i).2)) else none
 | _,_,_,_=>none
abbrev It:Type:=Nat→List Value→Bool→Int→Bool
abbrev HP:Type:=Nat→List Value→Bool→Int→Bool×Int
def AX (j:It) (G:HP) (L:aE):aE:=bp 0 36 oX [0,2,3] (F4 j G) L
def mD (n:Nat) (ps:List Value) (r:Bool) (i:Int):Bool×Int:=Classical.epsilon fun ρ=>aw Tryz.prog (lb 36 oX) (pq n ps r i) (oH n ps r i) (.ret) (pq n ps (ρ.1) (ρ.2)) (oH n ps (ρ.1) (ρ.2))∧Dk n ps r i ρ
theorem Mk (n:Nat) (ps:List Value) (r:Bool) (i:Int) (h:uh n ps r i):aw Tryz.prog (lb 36 oX) (pq n ps r i) (oH n ps r i) (.ret) (pq n ps ((mD n ps r i).1) ((mD n ps r i).2)) (oH n ps ((mD n ps r i).1) ((mD n ps r i).2))∧Dk n ps r i (mD n ps r i):=Classical.epsilon_spec (XP n ps r i h)
def wZ (n:Nat) (ps:List Value) (r:Bool) (i:Int):Bool:= @decide (uh n ps r i) (Classical.propDecidable _)
theorem TQ (n:Nat) (ps:List Value) (r:Bool) (i:Int) (h:uh n ps r i):wZ n ps r i=true:= @decide_eq_true _ (Classical.propDecidable _) h
theorem adk (T:List AV) (H:Hp) (e:Ex) (I:List AV) (G:Hp) (h:F4 wZ mD T H=some (true,e,I,G)):V.Ends Tryz.prog false 0 0 (.loop (lb 36 oX)) T H e I G:=by
 unfold F4 at h
 split at h
 ·rename_i n N r i O S U
  rw [Bool.cond_eq_ite] at h
  split at h
  ·rename_i J
   rw [beq_iff_eq] at J
   simp only [Option.some.injEq,Prod.mk.injEq,Bool.and_eq_true,decide_eq_true_eq] at h
   obtain ⟨⟨k1,ab⟩,rfl,rfl,rfl⟩:=h
   have a0:= @of_decide_eq_true _ (Classical.propDecidable _) ab
   refine Ends.pre (Mk n (af 6 n N) r i a0).1.ends (fun α B w D a1 Z=>bm J (fun p M y j=> ?_) Z)
   simp only [List.mem_cons,List.not_mem_nil,or_false] at M
   rcases M with rfl | rfl | rfl
   ·rw [O] at j;exact kU (by kernel_rfl) k1 j
   ·rw [S] at j;exact j
   ·rw [U] at j;exact j
  ·cases h
 ·cases h
theorem Qb {L:aE} (h:aB Tryz.prog L):aB Tryz.prog (AX wZ mD L):=h.br Ri adk
end
end Go.Proofs.YtamcpiicmfielaaGreat.L
namespace Go.Proofs.YtamcpiicmfielaaGreat.L
open Go Go.V Go.RowKit Go.Proofs.YtamcpiicmfielaaGreat.Sp
open Go.Proofs (Tryz.prog)
noncomputable section
def bu (a b:AV):Prop:=∀ (B:Nat→Prop) (w:World) (y:Value),a.Rel Tryz.prog cd B w bh y→b.Rel Tryz.prog cd B w bh y
def ba (a b:List AV):Prop:=∀ (B:Nat→Prop) (w:World) (j:List Value),ao Tryz.prog cd B w a bh j→ao Tryz.prog cd B w b bh j
theorem bu.refl (a:AV):bu a a:=fun _ _ _ h=>h
theorem ba.refl (a:List AV):ba a a:=fun _ _ _ h=>h
theorem ba.cons {a b:AV} {l m:List AV} (h:bu a b) (k:ba l m):ba (a :: l) (b :: m):=fun B w J I=>by
 obtain ⟨y,zs,rfl,j,G⟩:=I
 exact ⟨y,zs,rfl,h _ _ _ j,k _ _ _ G⟩
theorem bu.agg {l m:List AV} (k:ba l m):bu (.agg l) (.agg m):=fun B w y j=>by
 obtain ⟨G,rfl,h⟩:=j
 exact ⟨G,rfl,k _ _ _ h⟩
theorem bu.tup {l m:List AV} (k:ba l m):bu (.tup l) (.tup m):=fun B w y j=>by
 obtain ⟨G,rfl,h⟩:=j
 exact ⟨G,rfl,k _ _ _ h⟩
theorem bu.row {fl:Bool} {t:TypeId} {sz n:Nat} {f:Nat→Nat→AV} (j:Tryz.prog.cellsOf t=sz) (h:au sz n f=true):bu (.lst fl t n f) (.lst false t n (ag sz (af sz n f))):=fun B w y G=>kU j h G
theorem dI {g:FuncId} {f:TF} (ab:fH Tryz.prog g=true) (h:∀ args r,f args=some (true,r)→∃ (E:Env) (u d:Nat) (j:List AV) (v:AV),bb Tryz.prog E.C∧cL Tryz.prog E∧aD Tryz.prog E u d g j=some v∧ba args j∧bu v r):Entry Tryz.prog g f:=by
 intro args r a0 B w a2 S a1
 obtain ⟨E,u,d,j,v,U,Z,G,I,J⟩:=h args r a0
 refine (p9 U Z mixed ab G B w a2 S (I B w _ a1)).mono ?_
 rintro e w' ⟨y,M,N,O⟩
 exact ⟨y,M,N,J B w' y O⟩
theorem bP (sz n:Nat) (f:Nat→Nat→AV):(af sz n f).length=n*sz:=by simp [af]
theorem bn (sz n:Nat) (vs:List Value):au sz n (ag sz vs)=true:=List.all_eq_true.2 fun i _=>rfl
theorem bc {sz n:Nat} {vs:List Value} (h:vs.length=n*sz):af sz n (ag sz vs)=vs:=by
 apply List.ext_getElem?
 intro i
 by_cases j:i < n*sz
 ·unfold af
  rw [List.getElem?_map,List.getElem?_range j,List.getElem?_eq_getElem (show i < vs.length by omega)]
  show some (vs.getD (i / sz*sz+i % sz) undef)=_
  rw [Nat.div_add_mod',List.getD_eq_getElem?_getD,List.getElem?_eq_getElem (show i < vs.length by omega)];rfl
 ·rw [List.getElem?_eq_none (by rw [bP];omega),List.getElem?_eq_none (by omega)]
theorem xG {p:Nat→Bool} (n:Nat) (h:(List.range n).any p=true):∃ m,m < n∧(∀ G,G < m→p G=false)∧p m=true:=by
 induction n with
 | zero=>cases h
 | succ n N=>
  by_cases j:(List.range n).any p=true
  ·obtain ⟨m,O,I,J⟩:=N j
   exact ⟨m,by omega,I,J⟩
  ·rw [Bool.not_eq_true,List.any_eq_false] at j
   rw [List.range_succ,List.any_append,List.any_eq_false.2 j] at h
   simp only [List.any_cons,List.any_nil,Bool.or_false,Bool.false_or] at h
   exact ⟨n,by omega,fun G M=>by have:=j G (List.mem_range.2 M);rwa [Bool.not_eq_true] at this,h⟩
theorem wy {p:Nat→Bool} {n:Nat} (h:(List.range n).all p=true) {j:Nat} (G:j < n):p j=true:=List.all_eq_true.1 h j (List.mem_range.2 G)
theorem none_lt {p:Nat→Bool} {n:Nat} (h:¬ (List.range n).any p=true) {j:Nat} (G:j < n):p j=false:=by
 rw [Bool.not_eq_true,List.any_eq_false] at h
 have:=h j (List.mem_range.2 G)
 rwa [Bool.not_eq_true] at this
structure Tg where
 lH:Nat→List Value→Bool
 gp:Nat→List Value→Bool
def jM (n:Nat) (ps:List Value):Bool:=decide (n≤9223372036854775807)&&(List.range n).all (fi ps)
def oD (n:Nat) (ps:List Value):Bool:=(List.range n).any (kI ps) ||(decide (10 < n)&&decide (n≤1000) ||decide (1005 < n))
def kY:Tg where
 lH:=jM
 gp:=oD
theorem C7 {n:Nat} {ps:List Value} (h:kY.lH n ps=true):n≤9223372036854775807∧∀ j,j < n→fi ps j=true:=by
 have h:(decide _&&(List.range n).all (fi ps))=true:=h
 rw [Bool.and_eq_true,decide_eq_true_eq] at h
 exact ⟨h.1,fun j G=>wy h.2 G⟩
def Fv (T:Tg):TF:=fun args=>match args with
 | [.lst _ 35 n f]=>some (au 6 n f&&T.lH n (af 6 n f), .val (.bool (T.gp n (af 6 n f))))
 | _=>none
theorem WL (j:Iq) (G:HM) (n:Nat) (ps:List Value):aD Tryz.prog ⟨aF,ar,AT j G aq⟩ 10 10 36 [.lst false 35 n (ag 6 ps)]=
  (bif au (6:Nat) n (ag (6:Nat) ps)&&j n (af (6:Nat) n (ag (6:Nat) ps)) false (0:Int) then (bif decide ((10:Int) < (↑n:Int)) then (bif decide ((↑n:Int)≤(1000:Int)) then some (.val (.bool true)) else some (.val (.bool (decide ((1005:Int) < (↑n:Int)))))) else some (.val (.bool (decide ((1005:Int) < (↑n:Int)))))) else none):=by kernel_rfl
theorem WY (j:It) (G:HP) (n:Nat) (ps:List Value):aD Tryz.prog ⟨aF,ar,AX j G aq⟩ 10 10 36 [.lst false 35 n (ag 6 ps)]=
  (bif au (6:Nat) n (ag (6:Nat) ps)&&j n (af (6:Nat) n (ag (6:Nat) ps)) false (0:Int) then some (.val (.bool ((G n (af (6:Nat) n (ag (6:Nat) ps)) false (0:Int)).fst))) else none):=by kernel_rfl
theorem Vp:Entry Tryz.prog 36 (Fv kY):=by
 refine dI (by kernel_rfl) (fun args r h=> ?_)
 unfold Fv at h
 split at h
 ·rename_i fl n f
  simp only [Option.some.injEq,Prod.mk.injEq,Bool.and_eq_true] at h
  obtain ⟨⟨ab,a0⟩,rfl⟩:=h
  have M:ba [.lst fl 35 n f] [.lst false 35 n (ag 6 (af 6 n f))]:=ba.cons (bu.row (by kernel_rfl) ab) (ba.refl _)
  have O:=bP 6 n f
  generalize af 6 n f=ps at*
  obtain ⟨S,U⟩:=C7 a0
  by_cases j:(List.range n).any (kI ps)=true
  ·have G:uh n ps false 0:= ⟨rfl,S,U,xG n j⟩
   refine ⟨⟨aF,ar,AX wZ mD aq⟩,10,10,_,_,aH _,(Qb aB.none).ok, ?_,M,bu.refl _⟩
   have e:kY.gp n ps=true:=by show oD n ps=true;unfold oD;rw [j];rfl
   have Z:(mD n ps false 0).fst=true:=(Mk _ _ _ _ G).2
   rw [WY,bn,bc O,TQ _ _ _ _ G,e,Z];rfl
  ·have G:uc n ps false 0:= ⟨rfl,S,fun a1 N=> ⟨U a1 N,by have:=none_lt j N;unfold kI at this;rw [Bool.or_eq_false_iff] at this;exact this⟩⟩
   refine ⟨⟨aF,ar,AT wW qU aq⟩,10,10,_,_,aH _,(P7 aB.none).ok, ?_,M,bu.refl _⟩
   have e:kY.gp n ps=(decide (10 < n)&&decide (n≤1000) ||decide (1005 < n)):=by show oD n ps=_;unfold oD;rw [Bool.eq_false_iff.2 j];rfl
   rw [WL,bn,bc O,TM _ _ _ _ G,e]
   by_cases I:10 < n
   ·rw [decide_eq_true I,dT (show (10:Int) < (n:Int) by omega)]
    by_cases J:n≤1000
    ·rw [decide_eq_true J,dT (show (n:Int)≤1000 by omega)];rfl
    ·rw [decide_eq_false J,dF (show ¬ (n:Int)≤1000 by omega)]
     rw [show decide ((1005:Int) < (n:Int))=decide (1005 < n) from decide_eq_decide.2 (by omega)];rfl
   ·rw [decide_eq_false I,dF (show ¬ (10:Int) < (n:Int) by omega)]
    rw [show decide ((1005:Int) < (n:Int))=decide (1005 < n) from decide_eq_decide.2 (by omega)];rfl
 ·cases h
end
end Go.Proofs.YtamcpiicmfielaaGreat.L
namespace Go.Proofs.YtamcpiicmfielaaGreat.L
open Go Go.V Go.RowKit Go.Proofs.YtamcpiicmfielaaGreat.Sp
open Go.Proofs (Tryz.prog)
noncomputable section
def cP (ps:List Value) (j:Nat):Bool:=fi ps j&&(a8.ok (ah (ps.getD (j*6+1) undef)) (ah (ps.getD (j*6+2) undef))&&a8.ok (ah (ps.getD (j*6+4) undef)) (ah (ps.getD (j*6+5) undef)))
def lx (ps:List Value) (j:Nat):Int:=a8.kv (aM (ps.getD (j*6+0) undef)) (ah (ps.getD (j*6+1) undef)) (ah (ps.getD (j*6+2) undef)) (aM (ps.getD (j*6+3) undef)) (ah (ps.getD (j*6+4) undef)) (ah (ps.getD (j*6+5) undef))
def sd (ps:List Value) (j:Nat):Bool:= !decide (lx ps j=0)
theorem cY {ps:List Value} {j:Nat} (h:cP ps j=true):(aS (ps.getD (j*6+0) undef) (ps.getD (j*6+1) undef) (ps.getD (j*6+2) undef)=true∧aS (ps.getD (j*6+3) undef) (ps.getD (j*6+4) undef) (ps.getD (j*6+5) undef)=true)∧a8.ok (ah (ps.getD (j*6+1) undef)) (ah (ps.getD (j*6+2) undef))=true∧a8.ok (ah (ps.getD (j*6+4) undef)) (ah (ps.getD (j*6+5) undef))=true:=by
 unfold cP at h
 rw [Bool.and_eq_true,Bool.and_eq_true] at h
 exact ⟨yc h.1,h.2⟩
end
end Go.Proofs.YtamcpiicmfielaaGreat.L
namespace Go.Proofs.YtamcpiicmfielaaGreat.L
open Go Go.V Go.RowKit Go.Proofs.YtamcpiicmfielaaGreat.Sp
open Go.Proofs (Tryz.prog)
noncomputable section
theorem Jo (b:Bool):aM (.bool b)=b:=rfl
theorem Jp (s:BA):ah (.string s)=s:=rfl
theorem KX (b:Bool) (n d:BA):aS (.bool b) (.string n) (.string d)=true:=rfl
def u6 (q:Rat):List Value:= [.bool (ad.qn q), .string (ad.qs q), .string (ad.qd q)]
def aP (n:Nat) (q:Nat→Rat):List Value:=(List.range n).flatMap fun i=>u6 (q i)
theorem qa (n:Nat) (q:Nat→Rat):aP (n+1) q=aP n q ++ u6 (q n):=by
 unfold aP
 rw [List.range_succ,List.flatMap_append]
 simp
theorem eU (n:Nat) (q:Nat→Rat):(aP n q).length=n*3:=by
 induction n with
 | zero=>rfl
 | succ n j=>rw [qa,List.length_append,j];show n*3+3=_;omega
theorem Bt (n:Nat) (q:Nat→Rat) {j k:Nat} (I:j < n) (J:k < 3):(aP n q).getD (j*3+k) undef=(u6 (q j)).getD k undef:=by
 induction n with
 | zero=>omega
 | succ n G=>
  rw [qa,List.getD_eq_getElem?_getD]
  by_cases h:j < n
  ·rw [List.getElem?_append_left (by rw [eU];omega),← List.getD_eq_getElem?_getD]
   exact G h
  ·have:j=n:=by omega
   subst this
   rw [List.getElem?_append_right (by rw [eU];omega),eU,Nat.add_sub_cancel_left,← List.getD_eq_getElem?_getD]
theorem Bu (n:Nat) (q:Nat→Rat) {j:Nat} (G:j < n):(aP n q).getD (j*3+0) undef= .bool (ad.qn (q j)):=Bt n q G (by decide)
theorem Bw (n:Nat) (q:Nat→Rat) {j:Nat} (G:j < n):(aP n q).getD (j*3+1) undef= .string (ad.qs (q j)):=Bt n q G (by decide)
theorem Bv (n:Nat) (q:Nat→Rat) {j:Nat} (G:j < n):(aP n q).getD (j*3+2) undef= .string (ad.qd (q j)):=Bt n q G (by decide)
def MV (vs:List Value) (o:Nat):Rat:=ad.qv (aM (vs.getD (o+0) undef)) (ah (vs.getD (o+1) undef)) (ah (vs.getD (o+2) undef))
def px (ps:List Value) (j:Nat):Rat:=MV ps (j*6)
def py (ps:List Value) (j:Nat):Rat:=ad.qv (aM (ps.getD (j*6+3) undef)) (ah (ps.getD (j*6+4) undef)) (ah (ps.getD (j*6+5) undef))
end
end Go.Proofs.YtamcpiicmfielaaGreat.L
