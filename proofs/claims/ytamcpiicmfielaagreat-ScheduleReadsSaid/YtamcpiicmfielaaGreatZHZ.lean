import Derived.Test.YtamcpiicmfielaaGreatZHX
import Derived.Test.YtamcpiicmfielaaGreatZUA
import Derived.Test.YtamcpiicmfielaaGreatZQA
import Derived.Test.YtamcpiicmfielaaGreatZMD
set_option linter.unusedVariables false
set_option linter.unusedSimpArgs false
namespace Go.Proofs.YtamcpiicmfielaaGreat.L
open Go Go.V Go.RowKit Go.Proofs.YtamcpiicmfielaaGreat.Sp
open Go.Proofs (Tryz.prog)
noncomputable section
def cR (ts:List Value) (j:Nat):Bool:=aS (ts.getD (j*3+0) undef) (ts.getD (j*3+1) undef) (ts.getD (j*3+2) undef)
theorem CH {x y z:Value} (h:aS x y z=true):lq x=true∧eL y=true∧eL z=true:=by
 obtain ⟨j,G,I⟩:=fe h
 exact ⟨by rw [j];rfl,by rw [G];rfl,by rw [I];rfl⟩
abbrev fm:List Bool:= [false,true,false,true,true]
def gV (r:Bool) (i:Int) (n:Nat) (ts:List Value) (m:Nat) (ps:List Value) (G:Nat) (J:List Value) (j:Nat) (I:List Value):List AV:=av 59 [(2, .ptr 0 0),(3, .ptr 1 0),(4, .val (.bool r)),(5, .val (.int .i64 i))]
def gF (r:Bool) (i:Int) (n:Nat) (ts:List Value) (m:Nat) (ps:List Value) (G:Nat) (J:List Value) (j:Nat) (I:List Value):Hp:= [.row (.cells [.lst false 27 n (ag 3 ts), .lst false 35 m (ag 6 ps)]) 25 .live, .row (.cells [.lst false 27 G (ag 3 J), .lst false 35 j (ag 6 I)]) 25 .live]
theorem RK:aJ Tryz.prog 20 fm=some (.loop (lb 20 fm)):=by kernel_rfl
theorem Tk:aJ Tryz.prog 20 (false :: fm)=some (lb 20 fm):=by kernel_rfl
theorem Nn (r:Bool) (i:Int) (n:Nat) (ts:List Value) (m:Nat) (ps:List Value) (G:Nat) (j:List Value) (J:Nat) (M:List Value):letI N:=(i.toNat*(3:Nat)+(1:Nat));letI O:=(i.toNat*(3:Nat)+(2:Nat));letI S:=(aG (ah (ts.getD N undef)) (ah (j.getD N undef))&&(aG (ah (ts.getD O undef)) (ah (j.getD O undef))&&true));letI I:=(i.toNat*(3:Nat)+(0:Nat));
  (aN Tryz.prog ⟨aF,ar,aq⟩ 20 [2,3,4,5] (lb 20 fm) (false :: fm) (gV r i n ts m ps G j J M) (gF r i n ts m ps G j J M)=(bif decide (i < (↑n:Int)) then (bif decide ((0:Int)≤i)&&decide (i < (↑n:Int)) then (bif decide ((0:Int)≤i)&&decide (i < (↑G:Int)) then (bif lq (ts.getD I undef)&&lq (j.getD I undef) then (bif eL (ts.getD N undef)&&eL (j.getD N undef) then (bif eL (ts.getD O undef)&&eL (j.getD O undef) then (bif bif true then !(aM (ts.getD I undef)==aM (j.getD I undef)&&S) else aM (ts.getD I undef)==aM (j.getD I undef)&&S then some (.ret,av 59 [(2,(.ptr 0 0)),(3,(.ptr 1 0)),(4,(.val (.bool false))),(5,(.val (.int .i64 i)))], [(.row (.cells [(.lst false 27 n (ag (3:Nat) ts)),(.lst false 35 m (ag (6:Nat) ps))]) 25 .live),(.row (.cells [(.lst false 27 G (ag (3:Nat) j)),(.lst false 35 J (ag (6:Nat) M))]) 25 .live)]) else (bif aj IntKind.i64 (i+(1:Int)) then some (.normal,av 59 [(2,(.ptr 0 0)),(3,(.ptr 1 0)),(4,(.val (.bool r))),(5,(.val (.int .i64 (i+(1:Int)))))], [(.row (.cells [(.lst false 27 n (ag (3:Nat) ts)),(.lst false 35 m (ag (6:Nat) ps))]) 25 .live),(.row (.cells [(.lst false 27 G (ag (3:Nat) j)),(.lst false 35 J (ag (6:Nat) M))]) 25 .live)]) else none)) else none) else none) else none) else none) else none) else some ((.exit 0),av 59 [(2,(.ptr 0 0)),(3,(.ptr 1 0)),(4,(.val (.bool r))),(5,(.val (.int .i64 i)))], [(.row (.cells [(.lst false 27 n (ag (3:Nat) ts)),(.lst false 35 m (ag (6:Nat) ps))]) 25 .live),(.row (.cells [(.lst false 27 G (ag (3:Nat) j)),(.lst false 35 J (ag (6:Nat) M))]) 25 .live)]))):=by kernel_rfl
theorem Ou {r:Bool} {i:Int} {n:Nat} {ts:List Value} {m:Nat} {ps:List Value} {G:Nat} {J:List Value} {j:Nat} {I:List Value} {e:Ex} {T:List AV} {H:Hp} (h:aN Tryz.prog ⟨aF,ar,aq⟩ 20 [2,3,4,5] (lb 20 fm) (false :: fm) (gV r i n ts m ps G J j I) (gF r i n ts m ps G J j I)=some (e,T,H)):V.Ends Tryz.prog false 0 0 (lb 20 fm) (gV r i n ts m ps G J j I) (gF r i n ts m ps G J j I) e T H:=
 bw (aH _) aK mixed Tk h
theorem abr {r:Bool} {n m:Nat} {ts ps:List Value} (i:Nat) (M:i < n) (N:n≤9223372036854775807) (h:cR ts i=true):V.Ends Tryz.prog false 0 0 (lb 20 fm) (gV r i n ts m ps n ts m ps) (gF r i n ts m ps n ts m ps) .normal (gV r ((i+1:Nat):Int) n ts m ps n ts m ps) (gF r ((i+1:Nat):Int) n ts m ps n ts m ps):=by
 have j:=Nn r i n ts m ps n ts m ps
 obtain ⟨G,I,J⟩:=CH h
 simp only [Int.toNat_natCast] at j
 rw [dT (show (i:Int) < (n:Int) by omega),dT (show (0:Int)≤(i:Int) by omega),G,I,J,aO (z:=(i:Int)+1) (by omega)] at j
 simp only [beq_self_eq_true,pF,Bool.and_true,Bool.and_self,Bool.not_true,cond_true,cond_false] at j
 exact Ou j
theorem abq {r:Bool} {n m:Nat} {ts ps:List Value} (I:n≤9223372036854775807) (h:∀ j,j < n→cR ts j=true) (k:Nat):∀ i:Nat,n=i+k→aw Tryz.prog (lb 20 fm) (gV r i n ts m ps n ts m ps) (gF r i n ts m ps n ts m ps) (.exit 0) (gV r n n ts m ps n ts m ps) (gF r n n ts m ps n ts m ps):=by
 induction k with
 | zero=>
  intro i G
  have:i=n:=by omega
  subst this
  refine .last (Ou ?_) (by intro h;cases h)
  rw [Nn,dF (show ¬ ((i:Nat):Int) < (i:Int) by omega)]
  rfl
 | succ k J=>
  intro i G
  exact .more (abr i (by omega) I (h i (by omega))) (J (i+1) (by omega))
def uL (r:Bool) (i:Int) (n:Nat) (ts:List Value) (m:Nat) (ps:List Value) (I:Nat) (M:List Value) (G:Nat) (J:List Value):Prop:=i=0∧I=n∧M=ts∧G=m∧J=ps∧n≤9223372036854775807∧∀ j,j < n→cR ts j=true
def DH (r:Bool) (i:Int) (n:Nat) (ts:List Value) (m:Nat) (ps:List Value) (G:Nat) (J:List Value) (j:Nat) (I:List Value) (ρ:Int):Prop:=True
theorem Yg (r:Bool) (i:Int) (n:Nat) (ts:List Value) (m:Nat) (ps:List Value) (G:Nat) (J:List Value) (j:Nat) (I:List Value) (h:uL r i n ts m ps G J j I):∃ ρ:Int,aw Tryz.prog (lb 20 fm) (gV r i n ts m ps G J j I) (gF r i n ts m ps G J j I) (.exit 0) (gV r ρ n ts m ps G J j I) (gF r ρ n ts m ps G J j I)∧DH r i n ts m ps G J j I ρ:=by
 obtain ⟨rfl,rfl,rfl,rfl,rfl,M,h⟩:=h
 exact ⟨_,abq M h _ 0 (Nat.zero_add _).symm,trivial⟩
def Gx (S:Bool→Int→Nat→List Value→Nat→List Value→Nat→List Value→Nat→List Value→Bool) (O:Bool→Int→Nat→List Value→Nat→List Value→Nat→List Value→Nat→List Value→Int) (T:List AV) (H:Hp):Option (Bool×Ex×List AV×Hp):=
 match al T 2,al T 3,al T 4,al T 5,H with
 | .ptr 0 0, .ptr 1 0, .val (.bool r), .val (.int .i64 i), [.row (.cells [.lst false 27 n M, .lst false 35 m I]) 25 .live, .row (.cells [.lst false 27 G N, .lst false 35 j J]) 25 .live]=>bif T.length==59 then some (au 3 n M&&au 6 m I&&au 3 G N&&au 6 j J&&S r i n (af 3 n M) m (af 6 m I) G (af 3 G N) j (af 6 j J), .exit 0,gV r ((O r i n (af 3 n M) m (af 6 m I) G (af 3 G N) j (af 6 j J))) n (af 3 n M) m (af 6 m I) G (af 3 G N) j (af 6 j J),gF r ((O r i n (af 3 n M) m (af 6 m I) G (af 3 G N) j (af 6 j J))) n (af 3 n M) m (af 6 m I) G (af 3 G N) j (af 6 j J)) else none
 | _,_,_,_,_=>none
abbrev II:Type:=Bool→Int→Nat→List Value→Nat→List Value→Nat→List Value→Nat→List Value→Bool
abbrev Ia:Type:=Bool→Int→Nat→List Value→Nat→List Value→Nat→List Value→Nat→List Value→Int
def A9 (j:II) (G:Ia) (L:aE):aE:=bp 0 20 fm [2,3,4,5] (Gx j G) L
def qZ (r:Bool) (i:Int) (n:Nat) (ts:List Value) (m:Nat) (ps:List Value) (G:Nat) (J:List Value) (j:Nat) (I:List Value):Int:=Classical.epsilon fun ρ=>aw Tryz.prog (lb 20 fm) (gV r i n ts m ps G J j I) (gF r i n ts m ps G J j I) (.exit 0) (gV r (ρ) n ts m ps G J j I) (gF r (ρ) n ts m ps G J j I)∧DH r i n ts m ps G J j I ρ
theorem Zo (r:Bool) (i:Int) (n:Nat) (ts:List Value) (m:Nat) (ps:List Value) (G:Nat) (J:List Value) (j:Nat) (I:List Value) (h:uL r i n ts m ps G J j I):aw Tryz.prog (lb 20 fm) (gV r i n ts m ps G J j I) (gF r i n ts m ps G J j I) (.exit 0) (gV r ((qZ r i n ts m ps G J j I)) n ts m ps G J j I) (gF r ((qZ r i n ts m ps G J j I)) n ts m ps G J j I)∧DH r i n ts m ps G J j I (qZ r i n ts m ps G J j I):=Classical.epsilon_spec (Yg r i n ts m ps G J j I h)
def xj (r:Bool) (i:Int) (n:Nat) (ts:List Value) (m:Nat) (ps:List Value) (G:Nat) (J:List Value) (j:Nat) (I:List Value):Bool:= @decide (uL r i n ts m ps G J j I) (Classical.propDecidable _)
theorem Uk (r:Bool) (i:Int) (n:Nat) (ts:List Value) (m:Nat) (ps:List Value) (G:Nat) (J:List Value) (j:Nat) (I:List Value) (h:uL r i n ts m ps G J j I):xj r i n ts m ps G J j I=true:= @decide_eq_true _ (Classical.propDecidable _) h
theorem adL (T:List AV) (H:Hp) (e:Ex) (J:List AV) (I:Hp) (h:Gx xj qZ T H=some (true,e,J,I)):V.Ends Tryz.prog false 0 0 (.loop (lb 20 fm)) T H e J I:=by
 unfold Gx at h
 split at h
 ·rename_i r i n ab m U S a0 O Z a1 a2 a3 a4
  rw [Bool.cond_eq_ite] at h
  split at h
  ·rename_i M
   rw [beq_iff_eq] at M
   simp only [Option.some.injEq,Prod.mk.injEq,Bool.and_eq_true,decide_eq_true_eq] at h
   obtain ⟨⟨⟨⟨⟨k1,a6⟩,a7⟩,bx⟩,bD⟩,rfl,rfl,rfl⟩:=h
   have b0:= @of_decide_eq_true _ (Classical.propDecidable _) bD
   refine Ends.pre (Ends.cS (Zo r i n (af 3 n ab) m (af 6 m U) S (af 3 S a0) O (af 6 O Z) b0).1.ends (aT.cons ⟨⟨rfl,fun _ _ _ _ _ G=>ei (by kernel_rfl) (by kernel_rfl) k1 a6 G⟩,rfl,rfl⟩ (aT.cons ⟨⟨rfl,fun _ _ _ _ _ G=>ei (by kernel_rfl) (by kernel_rfl) a7 bx G⟩,rfl,rfl⟩ aT.nil))) (fun α B w D b1 a5=>bm M (fun p N y j=> ?_) a5)
   simp only [List.mem_cons,List.not_mem_nil,or_false] at N
   rcases N with rfl | rfl | rfl | rfl
   ·rw [a1] at j;exact j
   ·rw [a2] at j;exact j
   ·rw [a3] at j;exact j
   ·rw [a4] at j;exact j
  ·cases h
 ·cases h
theorem QA {L:aE} (h:aB Tryz.prog L):aB Tryz.prog (A9 xj qZ L):=h.br RK adL
abbrev fo:List Bool:= [false,true,false,true,true,true]
def gW (r:Bool) (i:Int) (n:Nat) (ts:List Value) (m:Nat) (ps:List Value) (G:Nat) (J:List Value) (j:Nat) (I:List Value):List AV:=av 59 [(2, .ptr 0 0),(3, .ptr 1 0),(4, .val (.bool r)),(6, .val (.int .i64 i))]
def gG (r:Bool) (i:Int) (n:Nat) (ts:List Value) (m:Nat) (ps:List Value) (G:Nat) (J:List Value) (j:Nat) (I:List Value):Hp:= [.row (.cells [.lst false 27 n (ag 3 ts), .lst false 35 m (ag 6 ps)]) 25 .live, .row (.cells [.lst false 27 G (ag 3 J), .lst false 35 j (ag 6 I)]) 25 .live]
theorem RL:aJ Tryz.prog 20 fo=some (.loop (lb 20 fo)):=by kernel_rfl
theorem Tm:aJ Tryz.prog 20 (false :: fo)=some (lb 20 fo):=by kernel_rfl
theorem No (r:Bool) (i:Int) (n:Nat) (ts:List Value) (m:Nat) (ps:List Value) (M:Nat) (N:List Value) (G:Nat) (j:List Value):letI O:=(i.toNat*(6:Nat)+(1:Nat));letI S:=(i.toNat*(6:Nat)+(2:Nat));letI ab:=(aG (ah (ps.getD O undef)) (ah (j.getD O undef))&&(aG (ah (ps.getD S undef)) (ah (j.getD S undef))&&true));letI U:=(i.toNat*(6:Nat)+(4:Nat));letI Z:=(i.toNat*(6:Nat)+(5:Nat));letI a0:=(aG (ah (ps.getD U undef)) (ah (j.getD U undef))&&(aG (ah (ps.getD Z undef)) (ah (j.getD Z undef))&&true));letI I:=(i.toNat*(6:Nat)+(0:Nat));letI J:=(i.toNat*(6:Nat)+(3:Nat));
  (aN Tryz.prog ⟨aF,ar,aq⟩ 20 [2,3,4,6] (lb 20 fo) (false :: fo) (gW r i n ts m ps M N G j) (gG r i n ts m ps M N G j)=(bif decide (i < (↑m:Int)) then (bif decide ((0:Int)≤i)&&decide (i < (↑m:Int)) then (bif decide ((0:Int)≤i)&&decide (i < (↑G:Int)) then (bif lq (ps.getD I undef)&&lq (j.getD I undef) then (bif eL (ps.getD O undef)&&eL (j.getD O undef) then (bif eL (ps.getD S undef)&&eL (j.getD S undef) then (bif lq (ps.getD J undef)&&lq (j.getD J undef) then (bif eL (ps.getD U undef)&&eL (j.getD U undef) then (bif eL (ps.getD Z undef)&&eL (j.getD Z undef) then (bif bif true then !(aM (ps.getD I undef)==aM (j.getD I undef)&&ab&&(aM (ps.getD J undef)==aM (j.getD J undef)&&a0&&true)) else aM (ps.getD I undef)==aM (j.getD I undef)&&ab&&(aM (ps.getD J undef)==aM (j.getD J undef)&&a0&&true) then some (.ret,av 59 [(2,(.ptr 0 0)),(3,(.ptr 1 0)),(4,(.val (.bool false))),(6,(.val (.int .i64 i)))], [(.row (.cells [(.lst false 27 n (ag (3:Nat) ts)),(.lst false 35 m (ag (6:Nat) ps))]) 25 .live),(.row (.cells [(.lst false 27 M (ag (3:Nat) N)),(.lst false 35 G (ag (6:Nat) j))]) 25 .live)]) else (bif aj IntKind.i64 (i+(1:Int)) then some (.normal,av 59 [(2,(.ptr 0 0)),(3,(.ptr 1 0)),(4,(.val (.bool r))),(6,(.val (.int .i64 (i+(1:Int)))))], [(.row (.cells [(.lst false 27 n (ag (3:Nat) ts)),(.lst false 35 m (ag (6:Nat) ps))]) 25 .live),(.row (.cells [(.lst false 27 M (ag (3:Nat) N)),(.lst false 35 G (ag (6:Nat) j))]) 25 .live)]) else none)) else none) else none) else none) else none) else none) else none) else none) else none) else some ((.exit 2),av 59 [(2,(.ptr 0 0)),(3,(.ptr 1 0)),(4,(.val (.bool r))),(6,(.val (.int .i64 i)))], [(.row (.cells [(.lst false 27 n (ag (3:Nat) ts)),(.lst false 35 m (ag (6:Nat) ps))]) 25 .live),(.row (.cells [(.lst false 27 M (ag (3:Nat) N)),(.lst false 35 G (ag (6:Nat) j))]) 25 .live)]))):=by kernel_rfl
theorem Ov {r:Bool} {i:Int} {n:Nat} {ts:List Value} {m:Nat} {ps:List Value} {G:Nat} {J:List Value} {j:Nat} {I:List Value} {e:Ex} {T:List AV} {H:Hp} (h:aN Tryz.prog ⟨aF,ar,aq⟩ 20 [2,3,4,6] (lb 20 fo) (false :: fo) (gW r i n ts m ps G J j I) (gG r i n ts m ps G J j I)=some (e,T,H)):V.Ends Tryz.prog false 0 0 (lb 20 fo) (gW r i n ts m ps G J j I) (gG r i n ts m ps G J j I) e T H:=
 bw (aH _) aK mixed Tm h
theorem abu {r:Bool} {n m:Nat} {ts ps:List Value} (i:Nat) (Z:i < m) (ab:m≤9223372036854775807) (h:fi ps i=true):V.Ends Tryz.prog false 0 0 (lb 20 fo) (gW r i n ts m ps n ts m ps) (gG r i n ts m ps n ts m ps) .normal (gW r ((i+1:Nat):Int) n ts m ps n ts m ps) (gG r ((i+1:Nat):Int) n ts m ps n ts m ps):=by
 have j:=No r i n ts m ps n ts m ps
 obtain ⟨S,U⟩:=yc h
 obtain ⟨G,I,J⟩:=CH S
 obtain ⟨M,N,O⟩:=CH U
 simp only [Int.toNat_natCast] at j
 rw [dT (show (i:Int) < (m:Int) by omega),dT (show (0:Int)≤(i:Int) by omega),G,I,J,M,N,O,aO (z:=(i:Int)+1) (by omega)] at j
 simp only [beq_self_eq_true,pF,Bool.and_true,Bool.and_self,Bool.not_true,cond_true,cond_false] at j
 exact Ov j
theorem abt {r:Bool} {n m:Nat} {ts ps:List Value} (I:m≤9223372036854775807) (h:∀ j,j < m→fi ps j=true) (k:Nat):∀ i:Nat,m=i+k→aw Tryz.prog (lb 20 fo) (gW r i n ts m ps n ts m ps) (gG r i n ts m ps n ts m ps) (.exit 2) (gW r m n ts m ps n ts m ps) (gG r m n ts m ps n ts m ps):=by
 induction k with
 | zero=>
  intro i G
  have:i=m:=by omega
  subst this
  refine .last (Ov ?_) (by intro h;cases h)
  rw [No,dF (show ¬ ((i:Nat):Int) < (i:Int) by omega)]
  rfl
 | succ k J=>
  intro i G
  exact .more (abu i (by omega) I (h i (by omega))) (J (i+1) (by omega))
def uM (r:Bool) (i:Int) (n:Nat) (ts:List Value) (m:Nat) (ps:List Value) (I:Nat) (M:List Value) (G:Nat) (J:List Value):Prop:=i=0∧I=n∧M=ts∧G=m∧J=ps∧m≤9223372036854775807∧∀ j,j < m→fi ps j=true
def DI (r:Bool) (i:Int) (n:Nat) (ts:List Value) (m:Nat) (ps:List Value) (G:Nat) (J:List Value) (j:Nat) (I:List Value) (ρ:Int):Prop:=True
theorem Yh (r:Bool) (i:Int) (n:Nat) (ts:List Value) (m:Nat) (ps:List Value) (G:Nat) (J:List Value) (j:Nat) (I:List Value) (h:uM r i n ts m ps G J j I):∃ ρ:Int,aw Tryz.prog (lb 20 fo) (gW r i n ts m ps G J j I) (gG r i n ts m ps G J j I) (.exit 2) (gW r ρ n ts m ps G J j I) (gG r ρ n ts m ps G J j I)∧DI r i n ts m ps G J j I ρ:=by
 obtain ⟨rfl,rfl,rfl,rfl,rfl,M,h⟩:=h
 exact ⟨_,abt M h _ 0 (Nat.zero_add _).symm,trivial⟩
def Gy (S:Bool→Int→Nat→List Value→Nat→List Value→Nat→List Value→Nat→List Value→Bool) (O:Bool→Int→Nat→List Value→Nat→List Value→Nat→List Value→Nat→List Value→Int) (T:List AV) (H:Hp):Option (Bool×Ex×List AV×Hp):=
 match al T 2,al T 3,al T 4,al T 6,H with
 | .ptr 0 0, .ptr 1 0, .val (.bool r), .val (.int .i64 i), [.row (.cells [.lst false 27 n M, .lst false 35 m I]) 25 .live, .row (.cells [.lst false 27 G N, .lst false 35 j J]) 25 .live]=>bif T.length==59 then some (au 3 n M&&au 6 m I&&au 3 G N&&au 6 j J&&S r i n (af 3 n M) m (af 6 m I) G (af 3 G N) j (af 6 j J), .exit 2,gW r ((O r i n (af 3 n M) m (af 6 m I) G (af 3 G N) j (af 6 j J))) n (af 3 n M) m (af 6 m I) G (af 3 G N) j (af 6 j J),gG r ((O r i n (af 3 n M) m (af 6 m I) G (af 3 G N) j (af 6 j J))) n (af 3 n M) m (af 6 m I) G (af 3 G N) j (af 6 j J)) else none
 | _,_,_,_,_=>none
abbrev IJ:Type:=Bool→Int→Nat→List Value→Nat→List Value→Nat→List Value→Nat→List Value→Bool
abbrev Ib:Type:=Bool→Int→Nat→List Value→Nat→List Value→Nat→List Value→Nat→List Value→Int
def Ba (j:IJ) (G:Ib) (L:aE):aE:=bp 0 20 fo [2,3,4,6] (Gy j G) L
def q7 (r:Bool) (i:Int) (n:Nat) (ts:List Value) (m:Nat) (ps:List Value) (G:Nat) (J:List Value) (j:Nat) (I:List Value):Int:=Classical.epsilon fun ρ=>aw Tryz.prog (lb 20 fo) (gW r i n ts m ps G J j I) (gG r i n ts m ps G J j I) (.exit 2) (gW r (ρ) n ts m ps G J j I) (gG r (ρ) n ts m ps G J j I)∧DI r i n ts m ps G J j I ρ
theorem Zp (r:Bool) (i:Int) (n:Nat) (ts:List Value) (m:Nat) (ps:List Value) (G:Nat) (J:List Value) (j:Nat) (I:List Value) (h:uM r i n ts m ps G J j I):aw Tryz.prog (lb 20 fo) (gW r i n ts m ps G J j I) (gG r i n ts m ps G J j I) (.exit 2) (gW r ((q7 r i n ts m ps G J j I)) n ts m ps G J j I) (gG r ((q7 r i n ts m ps G J j I)) n ts m ps G J j I)∧DI r i n ts m ps G J j I (q7 r i n ts m ps G J j I):=Classical.epsilon_spec (Yh r i n ts m ps G J j I h)
def xk (r:Bool) (i:Int) (n:Nat) (ts:List Value) (m:Nat) (ps:List Value) (G:Nat) (J:List Value) (j:Nat) (I:List Value):Bool:= @decide (uM r i n ts m ps G J j I) (Classical.propDecidable _)
theorem Ul (r:Bool) (i:Int) (n:Nat) (ts:List Value) (m:Nat) (ps:List Value) (G:Nat) (J:List Value) (j:Nat) (I:List Value) (h:uM r i n ts m ps G J j I):xk r i n ts m ps G J j I=true:= @decide_eq_true _ (Classical.propDecidable _) h
theorem adM (T:List AV) (H:Hp) (e:Ex) (J:List AV) (I:Hp) (h:Gy xk q7 T H=some (true,e,J,I)):V.Ends Tryz.prog false 0 0 (.loop (lb 20 fo)) T H e J I:=by
 unfold Gy at h
 split at h
 ·rename_i r i n ab m U S a0 O Z a1 a2 a3 a4
  rw [Bool.cond_eq_ite] at h
  split at h
  ·rename_i M
   rw [beq_iff_eq] at M
   simp only [Option.some.injEq,Prod.mk.injEq,Bool.and_eq_true,decide_eq_true_eq] at h
   obtain ⟨⟨⟨⟨⟨k1,a6⟩,a7⟩,bx⟩,bD⟩,rfl,rfl,rfl⟩:=h
   have b0:= @of_decide_eq_true _ (Classical.propDecidable _) bD
   refine Ends.pre (Ends.cS (Zp r i n (af 3 n ab) m (af 6 m U) S (af 3 S a0) O (af 6 O Z) b0).1.ends (aT.cons ⟨⟨rfl,fun _ _ _ _ _ G=>ei (by kernel_rfl) (by kernel_rfl) k1 a6 G⟩,rfl,rfl⟩ (aT.cons ⟨⟨rfl,fun _ _ _ _ _ G=>ei (by kernel_rfl) (by kernel_rfl) a7 bx G⟩,rfl,rfl⟩ aT.nil))) (fun α B w D b1 a5=>bm M (fun p N y j=> ?_) a5)
   simp only [List.mem_cons,List.not_mem_nil,or_false] at N
   rcases N with rfl | rfl | rfl | rfl
   ·rw [a1] at j;exact j
   ·rw [a2] at j;exact j
   ·rw [a3] at j;exact j
   ·rw [a4] at j;exact j
  ·cases h
 ·cases h
theorem QB {L:aE} (h:aB Tryz.prog L):aB Tryz.prog (Ba xk q7 L):=h.br RL adM
theorem abw (j:II) (I:Ia) (G:IJ) (J:Ib) (n m:Nat) (ts ps:List Value):aD Tryz.prog ⟨aF,ar,A9 j I (Ba G J aq)⟩ 10 10 20 [.agg [.lst false 27 n (ag 3 ts), .lst false 35 m (ag 6 ps)], .agg [.lst false 27 n (ag 3 ts), .lst false 35 m (ag 6 ps)]]=
  (bif !decide ((↑n:Int)=(↑n:Int)) then some (.val (.bool false)) else (bif !decide ((↑m:Int)=(↑m:Int)) then some (.val (.bool false)) else (bif au (3:Nat) n (ag (3:Nat) ts)&&au (6:Nat) m (ag (6:Nat) ps)&&au (3:Nat) n (ag (3:Nat) ts)&&au (6:Nat) m (ag (6:Nat) ps)&&j false (0:Int) n (af (3:Nat) n (ag (3:Nat) ts)) m (af (6:Nat) m (ag (6:Nat) ps)) n (af (3:Nat) n (ag (3:Nat) ts)) m (af (6:Nat) m (ag (6:Nat) ps)) then (bif au (3:Nat) n (ag (3:Nat) (af (3:Nat) n (ag (3:Nat) ts)))&&au (6:Nat) m (ag (6:Nat) (af (6:Nat) m (ag (6:Nat) ps)))&&au (3:Nat) n (ag (3:Nat) (af (3:Nat) n (ag (3:Nat) ts)))&&au (6:Nat) m (ag (6:Nat) (af (6:Nat) m (ag (6:Nat) ps)))&&G false (0:Int) n (af (3:Nat) n (ag (3:Nat) (af (3:Nat) n (ag (3:Nat) ts)))) m (af (6:Nat) m (ag (6:Nat) (af (6:Nat) m (ag (6:Nat) ps)))) n (af (3:Nat) n (ag (3:Nat) (af (3:Nat) n (ag (3:Nat) ts)))) m (af (6:Nat) m (ag (6:Nat) (af (6:Nat) m (ag (6:Nat) ps)))) then some (.val (.bool true)) else none) else none))):=by kernel_rfl
theorem abx:aD Tryz.prog ⟨aF,ar,aq⟩ 10 10 20 [.agg [.val (.slice none 0 0), .val (.slice none 0 0)], .agg [.val (.slice none 0 0), .val (.slice none 0 0)]]=some (.val (.bool true)):=by kernel_rfl
def fI (n:Nat) (ts:List Value):Bool:=decide (n≤9223372036854775807)&&(List.range n).all (cR ts)
theorem C3 {n:Nat} {ts:List Value} (h:fI n ts=true):n≤9223372036854775807∧∀ j,j < n→cR ts j=true:=by
 unfold fI at h
 rw [Bool.and_eq_true,decide_eq_true_eq] at h
 exact ⟨h.1,fun j G=>wy h.2 G⟩
structure Sm where
 sm:Nat→List Value→Nat→List Value→Nat→List Value→Nat→List Value→Bool
def smN (n:Nat) (ts:List Value) (m:Nat) (ps:List Value) (G:Nat) (J:List Value) (j:Nat) (I:List Value):Bool:= @decide (G=n∧J=ts∧j=m∧I=ps∧fI n ts=true∧jM m ps=true) (Classical.propDecidable _)
def kW:Sm:= ⟨smN⟩
theorem NZ {n m:Nat} {ts ps:List Value} (j:fI n ts=true) (G:jM m ps=true):kW.sm n ts m ps n ts m ps=true:= @decide_eq_true _ (Classical.propDecidable _) ⟨rfl,rfl,rfl,rfl,j,G⟩
def FK (M:Sm):TF:=fun args=>match args with
 | [.agg [.lst _ 27 n f, .lst _ 35 m g], .agg [.lst _ 27 G I, .lst _ 35 j J]]=>
  some (au 3 n f&&au 6 m g&&(au 3 G I&&au 6 j J&&M.sm n (af 3 n f) m (af 6 m g) G (af 3 G I) j (af 6 j J)), .val (.bool true))
 | _=>none
def FJ:TF:=fun args=>match args with
 | [.agg [.val (.slice none 0 0), .val (.slice none 0 0)], .agg [.val (.slice none 0 0), .val (.slice none 0 0)]]=>some (true, .val (.bool true))
 | _=>none
theorem V3:Entry Tryz.prog 20 FJ:=aX (aH _) aK mixed (by kernel_rfl) (fun args r h=>by
 unfold FJ at h
 split at h
 ·cases h;exact abx
 ·cases h)
theorem V4:Entry Tryz.prog 20 (FK kW):=by
 refine dI (by kernel_rfl) (fun args r h=> ?_)
 unfold FK at h
 split at h
 ·rename_i fl n f N m g O G I S j J
  simp only [Option.some.injEq,Prod.mk.injEq,Bool.and_eq_true] at h
  obtain ⟨⟨⟨U,Z⟩, ⟨ab,a0⟩,a1⟩,rfl⟩:=h
  obtain ⟨rfl,a7,rfl,bx,k1,a2⟩:= @of_decide_eq_true _ (Classical.propDecidable _) a1
  have M:ba [.agg [.lst fl 27 G f, .lst N 35 j g], .agg [.lst O 27 G I, .lst S 35 j J]] [.agg [.lst false 27 G (ag 3 (af 3 G f)), .lst false 35 j (ag 6 (af 6 j g))], .agg [.lst false 27 G (ag 3 (af 3 G I)), .lst false 35 j (ag 6 (af 6 j J))]]:=
   ba.cons (bu.agg (ba.cons (bu.row (by kernel_rfl) U) (ba.cons (bu.row (by kernel_rfl) Z) (ba.refl _)))) (ba.cons (bu.agg (ba.cons (bu.row (by kernel_rfl) ab) (ba.cons (bu.row (by kernel_rfl) a0) (ba.refl _)))) (ba.refl _))
  rw [a7,bx] at M
  have l1:=bP 3 G f
  have l2:=bP 6 j g
  generalize af 3 G f=ts at*
  generalize af 6 j g=ps at*
  obtain ⟨a3,a4⟩:=C3 k1
  obtain ⟨a5,a6⟩:=C7 (show kY.lH j ps=true from a2)
  refine ⟨⟨aF,ar,A9 xj qZ (Ba xk q7 aq)⟩,10,10,_,_,aH _,(QA (QB aB.none)).ok, ?_,M,bu.refl _⟩
  have p1:uL false 0 G ts j ps G ts j ps:= ⟨rfl,rfl,rfl,rfl,rfl,a3,a4⟩
  have p2:uM false 0 G ts j ps G ts j ps:= ⟨rfl,rfl,rfl,rfl,rfl,a5,a6⟩
  rw [abw,dT (show (G:Int)=G from rfl),dT (show (j:Int)=j from rfl)]
  simp only [bc l1,bc l2,bn,Uk _ _ _ _ _ _ _ _ _ _ p1,Ul _ _ _ _ _ _ _ _ _ _ p2,Bool.and_self,cond_true,Bool.not_true,cond_false]
 ·cases h
end
end Go.Proofs.YtamcpiicmfielaaGreat.L
namespace Go.Proofs.YtamcpiicmfielaaGreat.L
open Go Go.V Go.RowKit Go.Proofs.YtamcpiicmfielaaGreat.Sp
open Go.Proofs (Tryz.prog)
noncomputable section
def Hj (K:Hg) (j:Qg):Env:= ⟨an 49 (gR (ma j)) (an 57 (gP (rM K)) (an 23 (bM (rE j)) aF)),ar,aq⟩
def Ho (K:Hg) (j:Qg):Env:= ⟨an 51 (gR (jb j fun b n d=> .val (.int .i64 (j.ck b n d)))) (an 58 (gP (rM K)) (an 48 (bM (vG j)) aF)),ar,aq⟩
def bo (n d:BA):Bool:=decide (n.size≤1000)&&decide (d.size≤1000)
theorem mz {n d:BA} (h:bo n d=true):n.size≤1000∧d.size≤1000:=by
 unfold bo at h
 rwa [Bool.and_eq_true,decide_eq_true_eq,decide_eq_true_eq] at h
theorem cy {n d:BA} (h:bo n d=true):ad.ok n d=true:=DQ (by have:=mz h;omega) (by have:=mz h;omega)
theorem cz {n d:BA} (h:bo n d=true):ad.aL n d=true:=u4 (by have:=mz h;omega) (by have:=mz h;omega)
def cb (ts:List Value) (j:Nat):Bool:=cR ts j&&bo (ah (ts.getD (j*3+1) undef)) (ah (ts.getD (j*3+2) undef))
theorem cm {ts:List Value} {j:Nat} (h:cb ts j=true):aS (ts.getD (j*3+0) undef) (ts.getD (j*3+1) undef) (ts.getD (j*3+2) undef)=true∧bo (ah (ts.getD (j*3+1) undef)) (ah (ts.getD (j*3+2) undef))=true:=by
 unfold cb at h
 rwa [Bool.and_eq_true] at h
def sh (ts:List Value) (j:Nat):Bool:= !decide (ad.ck (aM (ts.getD (j*3+0) undef)) (ah (ts.getD (j*3+1) undef)) (ah (ts.getD (j*3+2) undef))=0)
def qt (ts:List Value) (j:Nat):Rat:=ad.qv (aM (ts.getD (j*3+0) undef)) (ah (ts.getD (j*3+1) undef)) (ah (ts.getD (j*3+2) undef))
def bE (ts ps:List Value) (j:Nat):Int:=if sh ts j=true∨sd ps j=true then 1 else if 0 < j∧0≤ad.cq (qt ts (j - 1)) (qt ts j) then 8 else 0
def dw (ts ps:List Value):Nat→Int
 | 0=>0
 | n+1=>if dw ts ps n=0 then bE ts ps n else dw ts ps n
def bJ (n:Nat) (ts:List Value) (m:Nat) (ps:List Value):Int:=if ¬ n=m then 9 else if n=0 then 11 else if 1000 < n then 4 else dw ts ps n
theorem BC {ts ps:List Value} {n:Nat} (h:∀ j,j < n→bE ts ps j=0):dw ts ps n=0:=by
 induction n with
 | zero=>rfl
 | succ n G=>
  unfold dw
  rw [if_pos (G fun j I=>h j (by omega))]
  exact h n (by omega)
theorem JK {ts ps:List Value} {k:Nat} (h:∀ j,j < k→bE ts ps j=0) (G:¬ bE ts ps k=0) (d:Nat):dw ts ps (k+1+d)=bE ts ps k:=by
 induction d with
 | zero=>
  show dw ts ps (k+1)=_
  unfold dw
  rw [if_pos (BC h)]
 | succ d I=>
  show dw ts ps (k+1+d+1)=_
  unfold dw
  rw [I,if_neg G]
theorem BB {ts ps:List Value} {n:Nat} (h:dw ts ps n=0):∀ j,j < n→bE ts ps j=0:=by
 induction n with
 | zero=>intro j I;omega
 | succ n M=>
  unfold dw at h
  by_cases G:dw ts ps n=0
  ·rw [if_pos G] at h
   intro j I
   by_cases J:j=n
   ·subst J;exact h
   ·exact M G j (by omega)
  ·rw [if_neg G] at h
   exact absurd h G
theorem yj {ts:List Value} {j:Nat} (h:cR ts j=true): [ag 3 ts j 0,ag 3 ts j 1,ag 3 ts j 2].all eP=true:=by
 obtain ⟨G,I,J⟩:=fe h
 unfold ag
 rw [G,I,J];rfl
theorem ss {ts ps:List Value} {j:Nat} (h:bE ts ps j=0):ad.ck (aM (ts.getD (j*3+0) undef)) (ah (ts.getD (j*3+1) undef)) (ah (ts.getD (j*3+2) undef))=0∧lx ps j=0∧(0 < j→¬ 0≤ad.cq (qt ts (j - 1)) (qt ts j)):=by
 unfold bE at h
 split at h
 ·cases h
 ·rename_i I
  split at h
  ·cases h
  ·rename_i J
   refine ⟨Classical.not_not.1 fun G=>I (.inl ?_),Classical.not_not.1 fun G=>I (.inr ?_),fun G M=>J ⟨G,M⟩⟩
   ·unfold sh;rw [decide_eq_false G];rfl
   ·unfold sd;rw [decide_eq_false G];rfl
theorem JJ {ts ps:List Value} {j:Nat} (h:¬ bE ts ps j=0):(¬ ad.ck (aM (ts.getD (j*3+0) undef)) (ah (ts.getD (j*3+1) undef)) (ah (ts.getD (j*3+2) undef))=0∧bE ts ps j=1)∨
  (ad.ck (aM (ts.getD (j*3+0) undef)) (ah (ts.getD (j*3+1) undef)) (ah (ts.getD (j*3+2) undef))=0∧¬ lx ps j=0∧bE ts ps j=1)∨
  (ad.ck (aM (ts.getD (j*3+0) undef)) (ah (ts.getD (j*3+1) undef)) (ah (ts.getD (j*3+2) undef))=0∧lx ps j=0∧0 < j∧0≤ad.cq (qt ts (j - 1)) (qt ts j)∧bE ts ps j=8):=by
 by_cases G:ad.ck (aM (ts.getD (j*3+0) undef)) (ah (ts.getD (j*3+1) undef)) (ah (ts.getD (j*3+2) undef))=0
 ·by_cases I:lx ps j=0
  ·have M:¬ (sh ts j=true∨sd ps j=true):=by
    unfold sh sd
    rw [decide_eq_true G,decide_eq_true I]
    exact fun h=>h.elim (fun h=>by cases h) (fun h=>by cases h)
   by_cases J:0 < j∧0≤ad.cq (qt ts (j - 1)) (qt ts j)
   ·exact .inr (.inr ⟨G,I,J.1,J.2,by unfold bE;rw [if_neg M,if_pos J]⟩)
   ·exact absurd (by unfold bE;rw [if_neg M,if_neg J]) h
  ·exact .inr (.inl ⟨G,I,by unfold bE;rw [if_pos (.inr (by unfold sd;rw [decide_eq_false I];rfl))]⟩)
 ·exact .inl ⟨G,by unfold bE;rw [if_pos (.inl (by unfold sh;rw [decide_eq_false G];rfl))]⟩
abbrev dY:List Bool:= [false,true,false,true,true]
def eC (er:Int) (j:Nat) (I:List Value) (G:Int) (i:Int) (n:Nat) (ts:List Value) (m:Nat) (ps:List Value):List AV:=av 57 [(1, .ptr 0 0),(2, .val (.int .i64 er)),(24, .lst false 27 j (ag 3 I)),(25, .val (.int .i64 G)),(26, .val (.int .i64 i))]
def dO (er:Int) (j:Nat) (I:List Value) (G:Int) (i:Int) (n:Nat) (ts:List Value) (m:Nat) (ps:List Value):Hp:= [.row (.cells [.lst false 27 n (ag 3 ts), .lst false 35 m (ag 6 ps)]) 25 .live]
theorem Rl:aJ Tryz.prog 18 dY=some (.loop (lb 18 dY)):=by kernel_rfl
theorem SV:aJ Tryz.prog 18 (false :: dY)=some (lb 18 dY):=by kernel_rfl
theorem El (K:Hg) (G:Qg) (er:Int) (I:Nat) (j:List Value) (J:Int) (i:Int) (n:Nat) (ts:List Value) (m:Nat) (ps:List Value):letI a2:Option (Ex×List AV×Hp):=(bif aj IntKind.i64 (i+(1:Int)) then some (.normal,av 57 [(1,(.ptr 0 0)),(2,(.val (.int .i64 er))),(24,(.lst false 27 I (ag (3:Nat) j))),(25,(.val (.int .i64 J))),(26,(.val (.int .i64 (i+(1:Int)))))], [(.row (.cells [(.lst false 27 n (ag (3:Nat) ts)),(.lst false 35 m (ag (6:Nat) ps))]) 25 .live)]) else none);letI M:=(j.getD (i.toNat*(3:Nat)+(1:Nat)) undef);letI N:=(j.getD (i.toNat*(3:Nat)+(2:Nat)) undef);letI O:=(j.getD (i.toNat*(3:Nat)+(0:Nat)) undef);letI U:=(ts.getD ((i - (1:Int)).toNat*(3:Nat)+(1:Nat)) undef);letI Z:=(ts.getD ((i - (1:Int)).toNat*(3:Nat)+(2:Nat)) undef);letI ab:=(ps.getD (i.toNat*(6:Nat)+(1:Nat)) undef);letI a0:=(ps.getD (i.toNat*(6:Nat)+(2:Nat)) undef);letI a1:=(ps.getD (i.toNat*(6:Nat)+(4:Nat)) undef);letI S:=(ps.getD (i.toNat*(6:Nat)+(5:Nat)) undef);
  (aN Tryz.prog (Hj K G) 18 [1,2,24,25,26] (lb 18 dY) (false :: dY) (eC er I j J i n ts m ps) (dO er I j J i n ts m ps)=(bif decide (i < J) then (bif decide ((0:Int)≤i)&&decide (i < (↑I:Int)) then (bif [(fun q=>ag (3:Nat) j i.toNat ((0:Nat)+q)) (nat_lit 0),(fun q=>ag (3:Nat) j i.toNat ((0:Nat)+q)) (nat_lit 1),(fun q=>ag (3:Nat) j i.toNat ((0:Nat)+q)) (nat_lit 2)].all eP then (bif aS O M N&&G.ok (ah M) (ah N) then (bif !decide (G.ck (aM O) (ah M) (ah N)=(0:Int)) then some (.ret,av 57 [(1,(.ptr 0 0)),(2,(.val (.int .i64 1))),(24,(.lst false 27 I (ag (3:Nat) j))),(25,(.val (.int .i64 J))),(26,(.val (.int .i64 i)))], [(.row (.cells [(.lst false 27 n (ag (3:Nat) ts)),(.lst false 35 m (ag (6:Nat) ps))]) 25 .live)]) else (bif decide ((0:Int)≤i)&&decide (i < (↑m:Int)) then (bif aS (ps.getD (i.toNat*(6:Nat)+(0:Nat)) undef) ab a0&&aS (ps.getD (i.toNat*(6:Nat)+(3:Nat)) undef) a1 S&&(K.ok (ah ab) (ah a0)&&K.ok (ah a1) (ah S)) then (bif !decide (K.kv (aM (ps.getD (i.toNat*(6:Nat)+(0:Nat)) undef)) (ah ab) (ah a0) (aM (ps.getD (i.toNat*(6:Nat)+(3:Nat)) undef)) (ah a1) (ah S)=(0:Int)) then some (.ret,av 57 [(1,(.ptr 0 0)),(2,(.val (.int .i64 1))),(24,(.lst false 27 I (ag (3:Nat) j))),(25,(.val (.int .i64 J))),(26,(.val (.int .i64 i)))], [(.row (.cells [(.lst false 27 n (ag (3:Nat) ts)),(.lst false 35 m (ag (6:Nat) ps))]) 25 .live)]) else (bif decide ((0:Int) < i) then (bif aj IntKind.i64 (i - (1:Int)) then (bif decide ((0:Int)≤i - (1:Int))&&decide (i - (1:Int) < (↑n:Int)) then (bif aS (ts.getD ((i - (1:Int)).toNat*(3:Nat)+(0:Nat)) undef) U Z&&aS O M N&&(G.ok (ah U) (ah Z)&&G.ok (ah M) (ah N)) then (bif decide ((0:Int)≤G.cq (G.qv (aM (ts.getD ((i - (1:Int)).toNat*(3:Nat)+(0:Nat)) undef)) (ah U) (ah Z)) (G.qv (aM O) (ah M) (ah N))) then some (.ret,av 57 [(1,(.ptr 0 0)),(2,(.val (.int .i64 8))),(24,(.lst false 27 I (ag (3:Nat) j))),(25,(.val (.int .i64 J))),(26,(.val (.int .i64 i)))], [(.row (.cells [(.lst false 27 n (ag (3:Nat) ts)),(.lst false 35 m (ag (6:Nat) ps))]) 25 .live)]) else a2) else none) else none) else none) else a2)) else none) else none)) else none) else none) else none) else some ((.exit 1),av 57 [(1,(.ptr 0 0)),(2,(.val (.int .i64 er))),(24,(.lst false 27 I (ag (3:Nat) j))),(25,(.val (.int .i64 J))),(26,(.val (.int .i64 i)))], [(.row (.cells [(.lst false 27 n (ag (3:Nat) ts)),(.lst false 35 m (ag (6:Nat) ps))]) 25 .live)]))):=by kernel_rfl
theorem ru {er:Int} {j:Nat} {I:List Value} {G:Int} {i:Int} {n:Nat} {ts:List Value} {m:Nat} {ps:List Value} {e:Ex} {T:List AV} {H:Hp} (h:aN Tryz.prog (Hj a8 ad) 18 [1,2,24,25,26] (lb 18 dY) (false :: dY) (eC er j I G i n ts m ps) (dO er j I G i n ts m ps)=some (e,T,H)):V.Ends Tryz.prog false 0 0 (lb 18 dY) (eC er j I G i n ts m ps) (dO er j I G i n ts m ps) e T H:=
 bw ((((aH _).add xv.bM).add Wd.gP).add oz.gR) aK mixed SV h
section
variable {n : Nat} {ts ps : List Value} {er : Int}
theorem K1 (i:Nat) (J:i < n) (bD:n≤1000) (M:∀ j,j < n→cb ts j=true) (bx:∀ j,j < n→cP ps j=true) (h:bE ts ps i=0):V.Ends Tryz.prog false 0 0 (lb 18 dY) (eC er n ts (n:Int) i n ts n ps) (dO er n ts (n:Int) i n ts n ps) .normal (eC er n ts (n:Int) ((i+1:Nat):Int) n ts n ps) (dO er n ts (n:Int) ((i+1:Nat):Int) n ts n ps):=by
 obtain ⟨a2,a3,a4⟩:=ss h
 obtain ⟨I,N⟩:=cm (M i J)
 obtain ⟨⟨O,S⟩,U,Z⟩:=cY (bx i J)
 have G:=El a8 ad er n ts (n:Int) i n ts n ps
 simp only [Int.toNat_natCast,Nat.zero_add] at G
 rw [dT (show (i:Int) < (n:Int) by omega),dT (show (0:Int)≤(i:Int) by omega),yj (show cR ts i=true from I),I,cy N] at G
 rw [dT a2,O,S,U,Z,dT (show a8.kv (aM (ps.getD (i*6+0) undef)) (ah (ps.getD (i*6+1) undef)) (ah (ps.getD (i*6+2) undef)) (aM (ps.getD (i*6+3) undef)) (ah (ps.getD (i*6+4) undef)) (ah (ps.getD (i*6+5) undef))=0 from a3)] at G
 by_cases a7:i=0
 ·subst a7
  exact ru G
 ·have a5:=a4 (by omega)
  obtain ⟨j,rfl⟩:∃ j,i=j+1:= ⟨i - 1,by omega⟩
  obtain ⟨ab,a0⟩:=cm (M j (by omega))
  have a1:((j+1:Nat):Int) - 1=(j:Int):=by omega
  simp only [a1,Int.toNat_natCast] at G
  rw [dT (show (0:Int) < ((j+1:Nat):Int) by omega),aO (z:=(j:Int)) (by omega),dT (show (0:Int)≤(j:Int) by omega),dT (show (j:Int) < (n:Int) by omega),ab,cy a0,aO (z:=((j+1:Nat):Int)+1) (by omega)] at G
  have a6:¬ 0≤ad.cq (ad.qv (aM (ts.getD (j*3+0) undef)) (ah (ts.getD (j*3+1) undef)) (ah (ts.getD (j*3+2) undef))) (ad.qv (aM (ts.getD ((j+1)*3+0) undef)) (ah (ts.getD ((j+1)*3+1) undef)) (ah (ts.getD ((j+1)*3+2) undef))):=a5
  rw [dF a6] at G
  exact ru G
theorem Xd (i:Nat) (ab:i < n) (bD:n≤1000) (a0:∀ j,j < n→cb ts j=true) (a7:∀ j,j < n→cP ps j=true) (h:¬ bE ts ps i=0):V.Ends Tryz.prog false 0 0 (lb 18 dY) (eC er n ts (n:Int) i n ts n ps) (dO er n ts (n:Int) i n ts n ps) .ret (eC (bE ts ps i) n ts (n:Int) i n ts n ps) (dO (bE ts ps i) n ts (n:Int) i n ts n ps):=by
 obtain ⟨N,a1⟩:=cm (a0 i ab)
 obtain ⟨⟨O,S⟩,U,Z⟩:=cY (a7 i ab)
 have G:=El a8 ad er n ts (n:Int) i n ts n ps
 simp only [Int.toNat_natCast,Nat.zero_add] at G
 rw [dT (show (i:Int) < (n:Int) by omega),dT (show (0:Int)≤(i:Int) by omega),yj (show cR ts i=true from N),N,cy a1] at G
 rcases JJ h with ⟨I,M⟩ | ⟨I,J,M⟩ | ⟨I,J,bx,a5,M⟩ <;> rw [M]
 ·rw [dF I] at G
  exact ru G
 ·rw [dT I,O,S,U,Z,dF (show ¬ a8.kv (aM (ps.getD (i*6+0) undef)) (ah (ps.getD (i*6+1) undef)) (ah (ps.getD (i*6+2) undef)) (aM (ps.getD (i*6+3) undef)) (ah (ps.getD (i*6+4) undef)) (ah (ps.getD (i*6+5) undef))=0 from J)] at G
  exact ru G
 ·rw [dT I,O,S,U,Z,dT (show a8.kv (aM (ps.getD (i*6+0) undef)) (ah (ps.getD (i*6+1) undef)) (ah (ps.getD (i*6+2) undef)) (aM (ps.getD (i*6+3) undef)) (ah (ps.getD (i*6+4) undef)) (ah (ps.getD (i*6+5) undef))=0 from J)] at G
  obtain ⟨j,rfl⟩:∃ j,i=j+1:= ⟨i - 1,by omega⟩
  obtain ⟨a2,a3⟩:=cm (a0 j (by omega))
  have a4:((j+1:Nat):Int) - 1=(j:Int):=by omega
  simp only [a4,Int.toNat_natCast] at G
  rw [dT (show (0:Int) < ((j+1:Nat):Int) by omega),aO (z:=(j:Int)) (by omega),dT (show (0:Int)≤(j:Int) by omega),dT (show (j:Int) < (n:Int) by omega),a2,cy a3] at G
  have a6:0≤ad.cq (ad.qv (aM (ts.getD (j*3+0) undef)) (ah (ts.getD (j*3+1) undef)) (ah (ts.getD (j*3+2) undef))) (ad.qv (aM (ts.getD ((j+1)*3+0) undef)) (ah (ts.getD ((j+1)*3+1) undef)) (ah (ts.getD ((j+1)*3+2) undef))):=a5
  rw [dT a6] at G
  exact ru G
theorem Xc (I:n≤1000) (M:∀ j,j < n→cb ts j=true) (J:∀ j,j < n→cP ps j=true) (h:∀ j,j < n→bE ts ps j=0) (k:Nat):∀ i:Nat,n=i+k→aw Tryz.prog (lb 18 dY) (eC er n ts (n:Int) i n ts n ps) (dO er n ts (n:Int) i n ts n ps) (.exit 1) (eC er n ts (n:Int) n n ts n ps) (dO er n ts (n:Int) n n ts n ps):=by
 induction k with
 | zero=>
  intro i G
  have:i=n:=by omega
  subst this
  refine .last (ru ?_) (by intro h;cases h)
  rw [El,dF (show ¬ ((i:Nat):Int) < (i:Int) by omega)]
  rfl
 | succ k N=>
  intro i G
  exact .more (K1 i (by omega) I M J (h i (by omega))) (N (i+1) (by omega))
theorem Xh (G:n≤1000) (J:∀ j,j < n→cb ts j=true) (I:∀ j,j < n→cP ps j=true) (q:Nat) (O:q < n) (h:∀ j,j < q→bE ts ps j=0) (M:¬ bE ts ps q=0) (k:Nat):∀ i:Nat,q=i+k→aw Tryz.prog (lb 18 dY) (eC er n ts (n:Int) i n ts n ps) (dO er n ts (n:Int) i n ts n ps) .ret (eC (bE ts ps q) n ts (n:Int) q n ts n ps) (dO (bE ts ps q) n ts (n:Int) q n ts n ps):=by
 induction k with
 | zero=>
  intro i N
  have:i=q:=by omega
  subst this
  exact .last (Xd i O G J I M) (by intro h;cases h)
 | succ k S=>
  intro i N
  exact .more (K1 i (by omega) G J I (h i (by omega))) (S (i+1) (by omega))
end
def uk (er:Int) (G:Nat) (J:List Value) (I i:Int) (n:Nat) (ts:List Value) (m:Nat) (ps:List Value):Prop:=n=G∧ts=J∧I=(n:Int)∧n=m∧i=0∧n≤1000∧(∀ j,j < n→cb ts j=true)∧(∀ j,j < n→cP ps j=true)∧∀ j,j < n→bE ts ps j=0
def Dn (er:Int) (j:Nat) (I:List Value) (G i:Int) (n:Nat) (ts:List Value) (m:Nat) (ps:List Value) (ρ:Int):Prop:=True
theorem XS (er:Int) (j:Nat) (I:List Value) (G i:Int) (n:Nat) (ts:List Value) (m:Nat) (ps:List Value) (h:uk er j I G i n ts m ps):∃ ρ:Int,aw Tryz.prog (lb 18 dY) (eC er j I G i n ts m ps) (dO er j I G i n ts m ps) (.exit 1) (eC er j I G ρ n ts m ps) (dO er j I G ρ n ts m ps)∧Dn er j I G i n ts m ps ρ:=by
 obtain ⟨rfl,rfl,rfl,rfl,rfl,J,N,M,h⟩:=h
 exact ⟨_,Xc J N M h _ 0 (Nat.zero_add _).symm,trivial⟩
def F7 (O:Int→Nat→List Value→Int→Int→Nat→List Value→Nat→List Value→Bool) (N:Int→Nat→List Value→Int→Int→Nat→List Value→Nat→List Value→Int) (T:List AV) (H:Hp):Option (Bool×Ex×List AV×Hp):=
 match al T 1,al T 2,al T 24,al T 25,al T 26,H with
 | .ptr 0 0, .val (.int .i64 er), .lst false 27 j J, .val (.int .i64 M), .val (.int .i64 i), [.row (.cells [.lst false 27 n I, .lst false 35 m G]) 25 .live]=>bif T.length==57 then some (au 3 j J&&au 3 n I&&au 6 m G&&O er j (af 3 j J) M i n (af 3 n I) m (af 6 m G), .exit 1,eC er j (af 3 j J) M ((N er j (af 3 j J) M i n (af 3 n I) m (af 6 m G))) n (af 3 n I) m (af 6 m G),dO er j (af 3 j J) M ((N er j (af 3 j J) M i n (af 3 n I) m (af 6 m G))) n (af 3 n I) m (af 6 m G)) else none
 | _,_,_,_,_,_=>none
abbrev Iw:Type:=Int→Nat→List Value→Int→Int→Nat→List Value→Nat→List Value→Bool
abbrev HU:Type:=Int→Nat→List Value→Int→Int→Nat→List Value→Nat→List Value→Int
def A0 (j:Iw) (G:HU) (L:aE):aE:=bp 0 18 dY [1,2,24,25,26] (F7 j G) L
def qX (er:Int) (j:Nat) (I:List Value) (G:Int) (i:Int) (n:Nat) (ts:List Value) (m:Nat) (ps:List Value):Int:=Classical.epsilon fun ρ=>aw Tryz.prog (lb 18 dY) (eC er j I G i n ts m ps) (dO er j I G i n ts m ps) (.exit 1) (eC er j I G (ρ) n ts m ps) (dO er j I G (ρ) n ts m ps)∧Dn er j I G i n ts m ps ρ
theorem Zm (er:Int) (j:Nat) (I:List Value) (G:Int) (i:Int) (n:Nat) (ts:List Value) (m:Nat) (ps:List Value) (h:uk er j I G i n ts m ps):aw Tryz.prog (lb 18 dY) (eC er j I G i n ts m ps) (dO er j I G i n ts m ps) (.exit 1) (eC er j I G ((qX er j I G i n ts m ps)) n ts m ps) (dO er j I G ((qX er j I G i n ts m ps)) n ts m ps)∧Dn er j I G i n ts m ps (qX er j I G i n ts m ps):=Classical.epsilon_spec (XS er j I G i n ts m ps h)
def w7 (er:Int) (j:Nat) (I:List Value) (G:Int) (i:Int) (n:Nat) (ts:List Value) (m:Nat) (ps:List Value):Bool:= @decide (uk er j I G i n ts m ps) (Classical.propDecidable _)
theorem TT (er:Int) (j:Nat) (I:List Value) (G:Int) (i:Int) (n:Nat) (ts:List Value) (m:Nat) (ps:List Value) (h:uk er j I G i n ts m ps):w7 er j I G i n ts m ps=true:= @decide_eq_true _ (Classical.propDecidable _) h
theorem adn (T:List AV) (H:Hp) (e:Ex) (I:List AV) (G:Hp) (h:F7 w7 qX T H=some (true,e,I,G)):V.Ends Tryz.prog false 0 0 (.loop (lb 18 dY)) T H e I G:=by
 unfold F7 at h
 split at h
 ·rename_i er N U bD i n S m O Z ab a0 a1 a2
  rw [Bool.cond_eq_ite] at h
  split at h
  ·rename_i J
   rw [beq_iff_eq] at J
   simp only [Option.some.injEq,Prod.mk.injEq,Bool.and_eq_true,decide_eq_true_eq] at h
   obtain ⟨⟨⟨⟨k1,a5⟩,a6⟩,a7⟩,rfl,rfl,rfl⟩:=h
   have bx:= @of_decide_eq_true _ (Classical.propDecidable _) a7
   refine Ends.pre (Ends.cS (Zm er N (af 3 N U) bD i n (af 3 n S) m (af 6 m O) bx).1.ends (aT.cons ⟨⟨rfl,fun _ _ _ _ _ a3=>ei (by kernel_rfl) (by kernel_rfl) a5 a6 a3⟩,rfl,rfl⟩ aT.nil)) (fun α B w D b0 a4=>bm J (fun p M y j=> ?_) a4)
   simp only [List.mem_cons,List.not_mem_nil,or_false] at M
   rcases M with rfl | rfl | rfl | rfl | rfl
   ·rw [Z] at j;exact j
   ·rw [ab] at j;exact j
   ·rw [a0] at j;exact kU (by kernel_rfl) k1 j
   ·rw [a1] at j;exact j
   ·rw [a2] at j;exact j
  ·cases h
 ·cases h
theorem Qe {L:aE} (h:aB Tryz.prog L):aB Tryz.prog (A0 w7 qX L):=h.br Rl adn
abbrev oZ:List Bool:= [false,true,false,true,true]
def pw (er:Int) (j:Nat) (I:List Value) (G:Int) (i:Int) (n:Nat) (ts:List Value) (m:Nat) (ps:List Value):List AV:=av 57 [(1, .ptr 0 0),(2, .val (.int .i64 er)),(24, .lst false 27 j (ag 3 I)),(25, .val (.int .i64 G)),(26, .val (.int .i64 i))]
def oJ (er:Int) (j:Nat) (I:List Value) (G:Int) (i:Int) (n:Nat) (ts:List Value) (m:Nat) (ps:List Value):Hp:= [.row (.cells [.lst false 27 n (ag 3 ts), .lst false 35 m (ag 6 ps)]) 25 .live]
theorem Rm:aJ Tryz.prog 18 oZ=some (.loop (lb 18 oZ)):=by kernel_rfl
def um (er:Int) (G:Nat) (J:List Value) (I i:Int) (n:Nat) (ts:List Value) (m:Nat) (ps:List Value):Prop:=n=G∧ts=J∧I=(n:Int)∧n=m∧i=0∧n≤1000∧(∀ j,j < n→cb ts j=true)∧(∀ j,j < n→cP ps j=true)∧∃ q,q < n∧(∀ j,j < q→bE ts ps j=0)∧¬ bE ts ps q=0
def Dp (er:Int) (j:Nat) (I:List Value) (G i:Int) (n:Nat) (ts:List Value) (m:Nat) (ps:List Value) (ρ:Int×Int):Prop:=ρ.1=dw ts ps n
theorem XT (er:Int) (j:Nat) (I:List Value) (G i:Int) (n:Nat) (ts:List Value) (m:Nat) (ps:List Value) (h:um er j I G i n ts m ps):∃ ρ:Int×Int,aw Tryz.prog (lb 18 oZ) (pw er j I G i n ts m ps) (oJ er j I G i n ts m ps) .ret (pw ρ.1 j I G ρ.2 n ts m ps) (oJ ρ.1 j I G ρ.2 n ts m ps)∧Dp er j I G i n ts m ps ρ:=by
 obtain ⟨rfl,rfl,rfl,rfl,rfl,M,S,N,q,O,h,J⟩:=h
 have e:=JK h J (n - (q+1))
 rw [show q+1+(n - (q+1))=n by omega] at e
 exact ⟨(bE ts ps q,(q:Int)),Xh M S N q O h J q 0 (by omega),e.symm⟩
def F8 (O:Int→Nat→List Value→Int→Int→Nat→List Value→Nat→List Value→Bool) (N:Int→Nat→List Value→Int→Int→Nat→List Value→Nat→List Value→Int×Int) (T:List AV) (H:Hp):Option (Bool×Ex×List AV×Hp):=
 match al T 1,al T 2,al T 24,al T 25,al T 26,H with
 | .ptr 0 0, .val (.int .i64 er), .lst false 27 j J, .val (.int .i64 M), .val (.int .i64 i), [.row (.cells [.lst false 27 n I, .lst false 35 m G]) 25 .live]=>bif T.length==57 then some (au 3 j J&&au 3 n I&&au 6 m G&&O er j (af 3 j J) M i n (af 3 n I) m (af 6 m G), .ret,pw ((N er j (af 3 j J) M i n (af 3 n I) m (af 6 m G)).1) j (af 3 j J) M ((N er j (af 3 j J) M i n (af 3 n I) m (af 6 m G)).2) n (af 3 n I) m (af 6 m G),oJ ((N er j (af 3 j J) M i n (af 3 n I) m (af 6 m G)).1) j (af 3 j J) M ((N er j (af 3 j J) M i n (af 3 n I) m (af 6 m G)).2) n (af 3 n I) m (af 6 m G)) else none
 | _,_,_,_,_,_=>none
abbrev Ix:Type:=Int→Nat→List Value→Int→Int→Nat→List Value→Nat→List Value→Bool
abbrev HW:Type:=Int→Nat→List Value→Int→Int→Nat→List Value→Nat→List Value→Int×Int
def A1 (j:Ix) (G:HW) (L:aE):aE:=bp 0 18 oZ [1,2,24,25,26] (F8 j G) L
def mF (er:Int) (j:Nat) (I:List Value) (G:Int) (i:Int) (n:Nat) (ts:List Value) (m:Nat) (ps:List Value):Int×Int:=Classical.epsilon fun ρ=>aw Tryz.prog (lb 18 oZ) (pw er j I G i n ts m ps) (oJ er j I G i n ts m ps) (.ret) (pw (ρ.1) j I G (ρ.2) n ts m ps) (oJ (ρ.1) j I G (ρ.2) n ts m ps)∧Dp er j I G i n ts m ps ρ
theorem Mm (er:Int) (j:Nat) (I:List Value) (G:Int) (i:Int) (n:Nat) (ts:List Value) (m:Nat) (ps:List Value) (h:um er j I G i n ts m ps):aw Tryz.prog (lb 18 oZ) (pw er j I G i n ts m ps) (oJ er j I G i n ts m ps) (.ret) (pw ((mF er j I G i n ts m ps).1) j I G ((mF er j I G i n ts m ps).2) n ts m ps) (oJ ((mF er j I G i n ts m ps).1) j I G ((mF er j I G i n ts m ps).2) n ts m ps)∧Dp er j I G i n ts m ps (mF er j I G i n ts m ps):=Classical.epsilon_spec (XT er j I G i n ts m ps h)
def w9 (er:Int) (j:Nat) (I:List Value) (G:Int) (i:Int) (n:Nat) (ts:List Value) (m:Nat) (ps:List Value):Bool:= @decide (um er j I G i n ts m ps) (Classical.propDecidable _)
theorem TU (er:Int) (j:Nat) (I:List Value) (G:Int) (i:Int) (n:Nat) (ts:List Value) (m:Nat) (ps:List Value) (h:um er j I G i n ts m ps):w9 er j I G i n ts m ps=true:= @decide_eq_true _ (Classical.propDecidable _) h
theorem ado (T:List AV) (H:Hp) (e:Ex) (I:List AV) (G:Hp) (h:F8 w9 mF T H=some (true,e,I,G)):V.Ends Tryz.prog false 0 0 (.loop (lb 18 oZ)) T H e I G:=by
 unfold F8 at h
 split at h
 ·rename_i er N U bD i n S m O Z ab a0 a1 a2
  rw [Bool.cond_eq_ite] at h
  split at h
  ·rename_i J
   rw [beq_iff_eq] at J
   simp only [Option.some.injEq,Prod.mk.injEq,Bool.and_eq_true,decide_eq_true_eq] at h
   obtain ⟨⟨⟨⟨k1,a5⟩,a6⟩,a7⟩,rfl,rfl,rfl⟩:=h
   have bx:= @of_decide_eq_true _ (Classical.propDecidable _) a7
   refine Ends.pre (Ends.cS (Mm er N (af 3 N U) bD i n (af 3 n S) m (af 6 m O) bx).1.ends (aT.cons ⟨⟨rfl,fun _ _ _ _ _ a3=>ei (by kernel_rfl) (by kernel_rfl) a5 a6 a3⟩,rfl,rfl⟩ aT.nil)) (fun α B w D b0 a4=>bm J (fun p M y j=> ?_) a4)
   simp only [List.mem_cons,List.not_mem_nil,or_false] at M
   rcases M with rfl | rfl | rfl | rfl | rfl
   ·rw [Z] at j;exact j
   ·rw [ab] at j;exact j
   ·rw [a0] at j;exact kU (by kernel_rfl) k1 j
   ·rw [a1] at j;exact j
   ·rw [a2] at j;exact j
  ·cases h
 ·cases h
theorem Qf {L:aE} (h:aB Tryz.prog L):aB Tryz.prog (A1 w9 mF L):=h.br Rm ado
abbrev dX:List Bool:= [false,true,false,true,true,true,true]
def eB (er:Int) (i:Int) (n:Nat) (ts:List Value) (m:Nat) (ps:List Value):List AV:=av 59 [(1, .ptr 0 0),(2, .val (.int .i64 er)),(3, .val (.int .i64 i))]
def dN (er:Int) (i:Int) (n:Nat) (ts:List Value) (m:Nat) (ps:List Value):Hp:= [.row (.cells [.lst false 27 n (ag 3 ts), .lst false 35 m (ag 6 ps)]) 25 .live]
theorem Rj:aJ Tryz.prog 19 dX=some (.loop (lb 19 dX)):=by kernel_rfl
theorem SU:aJ Tryz.prog 19 (false :: dX)=some (lb 19 dX):=by kernel_rfl
theorem Ek (K:Hg) (j:Qg) (er:Int) (i:Int) (n:Nat) (ts:List Value) (m:Nat) (ps:List Value):letI ab:Option (Ex×List AV×Hp):=(bif aj IntKind.i64 (i+(1:Int)) then some (.normal,av 59 [(1,(.ptr 0 0)),(2,(.val (.int .i64 er))),(3,(.val (.int .i64 (i+(1:Int)))))], [(.row (.cells [(.lst false 27 n (ag (3:Nat) ts)),(.lst false 35 m (ag (6:Nat) ps))]) 25 .live)]) else none);letI G:=(ts.getD (i.toNat*(3:Nat)+(1:Nat)) undef);letI I:=(ts.getD (i.toNat*(3:Nat)+(2:Nat)) undef);letI J:=(ts.getD (i.toNat*(3:Nat)+(0:Nat)) undef);letI N:=(ts.getD ((i - (1:Int)).toNat*(3:Nat)+(1:Nat)) undef);letI O:=(ts.getD ((i - (1:Int)).toNat*(3:Nat)+(2:Nat)) undef);letI S:=(ps.getD (i.toNat*(6:Nat)+(1:Nat)) undef);letI U:=(ps.getD (i.toNat*(6:Nat)+(2:Nat)) undef);letI Z:=(ps.getD (i.toNat*(6:Nat)+(4:Nat)) undef);letI M:=(ps.getD (i.toNat*(6:Nat)+(5:Nat)) undef);
  (aN Tryz.prog (Ho K j) 19 [1,2,3] (lb 19 dX) (false :: dX) (eB er i n ts m ps) (dN er i n ts m ps)=(bif decide (i < (↑n:Int)) then (bif decide ((0:Int)≤i)&&decide (i < (↑n:Int)) then (bif aS J G I&&j.aL (ah G) (ah I) then (bif !decide (j.ck (aM J) (ah G) (ah I)=(0:Int)) then some (.ret,av 59 [(1,(.ptr 0 0)),(2,(.val (.int .i64 1))),(3,(.val (.int .i64 i)))], [(.row (.cells [(.lst false 27 n (ag (3:Nat) ts)),(.lst false 35 m (ag (6:Nat) ps))]) 25 .live)]) else (bif decide ((0:Int)≤i)&&decide (i < (↑m:Int)) then (bif aS (ps.getD (i.toNat*(6:Nat)+(0:Nat)) undef) S U&&aS (ps.getD (i.toNat*(6:Nat)+(3:Nat)) undef) Z M&&(K.ok (ah S) (ah U)&&K.ok (ah Z) (ah M)) then (bif !decide (K.kv (aM (ps.getD (i.toNat*(6:Nat)+(0:Nat)) undef)) (ah S) (ah U) (aM (ps.getD (i.toNat*(6:Nat)+(3:Nat)) undef)) (ah Z) (ah M)=(0:Int)) then some (.ret,av 59 [(1,(.ptr 0 0)),(2,(.val (.int .i64 1))),(3,(.val (.int .i64 i)))], [(.row (.cells [(.lst false 27 n (ag (3:Nat) ts)),(.lst false 35 m (ag (6:Nat) ps))]) 25 .live)]) else (bif decide ((0:Int) < i) then (bif aj IntKind.i64 (i - (1:Int)) then (bif decide ((0:Int)≤i - (1:Int))&&decide (i - (1:Int) < (↑n:Int)) then (bif decide ((0:Int)≤i)&&decide (i < (↑n:Int)) then (bif aS (ts.getD ((i - (1:Int)).toNat*(3:Nat)+(0:Nat)) undef) N O&&aS J G I&&(j.aL (ah N) (ah O)&&j.aL (ah G) (ah I)) then (bif decide ((0:Int)≤j.cq (j.qv (aM (ts.getD ((i - (1:Int)).toNat*(3:Nat)+(0:Nat)) undef)) (ah N) (ah O)) (j.qv (aM J) (ah G) (ah I))) then some (.ret,av 59 [(1,(.ptr 0 0)),(2,(.val (.int .i64 8))),(3,(.val (.int .i64 i)))], [(.row (.cells [(.lst false 27 n (ag (3:Nat) ts)),(.lst false 35 m (ag (6:Nat) ps))]) 25 .live)]) else ab) else none) else none) else none) else none) else ab)) else none) else none)) else none) else none) else some ((.exit 0),av 59 [(1,(.ptr 0 0)),(2,(.val (.int .i64 er))),(3,(.val (.int .i64 i)))], [(.row (.cells [(.lst false 27 n (ag (3:Nat) ts)),(.lst false 35 m (ag (6:Nat) ps))]) 25 .live)]))):=by kernel_rfl
theorem rq {er:Int} {i:Int} {n:Nat} {ts:List Value} {m:Nat} {ps:List Value} {e:Ex} {T:List AV} {H:Hp} (h:aN Tryz.prog (Ho a8 ad) 19 [1,2,3] (lb 19 dX) (false :: dX) (eB er i n ts m ps) (dN er i n ts m ps)=some (e,T,H)):V.Ends Tryz.prog false 0 0 (lb 19 dX) (eB er i n ts m ps) (dN er i n ts m ps) e T H:=
 bw ((((aH _).add xw.bM).add VZ.gP).add xy.gR) aK mixed SU h
section
variable {n : Nat} {ts ps : List Value} {er : Int}
theorem K0 (i:Nat) (I:i < n) (bD:n≤1000) (J:∀ j,j < n→cb ts j=true) (bx:∀ j,j < n→cP ps j=true) (h:bE ts ps i=0):V.Ends Tryz.prog false 0 0 (lb 19 dX) (eB er i n ts n ps) (dN er i n ts n ps) .normal (eB er ((i+1:Nat):Int) n ts n ps) (dN er ((i+1:Nat):Int) n ts n ps):=by
 obtain ⟨a2,a3,a4⟩:=ss h
 obtain ⟨M,N⟩:=cm (J i I)
 obtain ⟨⟨O,S⟩,U,Z⟩:=cY (bx i I)
 have G:=Ek a8 ad er i n ts n ps
 simp only [Int.toNat_natCast,Nat.zero_add] at G
 rw [dT (show (i:Int) < (n:Int) by omega),dT (show (0:Int)≤(i:Int) by omega),M,cz N] at G
 rw [dT a2,O,S,U,Z,dT (show a8.kv (aM (ps.getD (i*6+0) undef)) (ah (ps.getD (i*6+1) undef)) (ah (ps.getD (i*6+2) undef)) (aM (ps.getD (i*6+3) undef)) (ah (ps.getD (i*6+4) undef)) (ah (ps.getD (i*6+5) undef))=0 from a3)] at G
 by_cases a7:i=0
 ·subst a7
  exact rq G
 ·have a5:=a4 (by omega)
  obtain ⟨j,rfl⟩:∃ j,i=j+1:= ⟨i - 1,by omega⟩
  obtain ⟨ab,a0⟩:=cm (J j (by omega))
  have a1:((j+1:Nat):Int) - 1=(j:Int):=by omega
  simp only [a1,Int.toNat_natCast] at G
  rw [dT (show (0:Int) < ((j+1:Nat):Int) by omega),aO (z:=(j:Int)) (by omega),dT (show (0:Int)≤(j:Int) by omega),dT (show (j:Int) < (n:Int) by omega),ab,cz a0,aO (z:=((j+1:Nat):Int)+1) (by omega)] at G
  have a6:¬ 0≤ad.cq (ad.qv (aM (ts.getD (j*3+0) undef)) (ah (ts.getD (j*3+1) undef)) (ah (ts.getD (j*3+2) undef))) (ad.qv (aM (ts.getD ((j+1)*3+0) undef)) (ah (ts.getD ((j+1)*3+1) undef)) (ah (ts.getD ((j+1)*3+2) undef))):=a5
  rw [dF a6] at G
  exact rq G
theorem W7 (i:Nat) (Z:i < n) (bD:n≤1000) (ab:∀ j,j < n→cb ts j=true) (a7:∀ j,j < n→cP ps j=true) (h:¬ bE ts ps i=0):V.Ends Tryz.prog false 0 0 (lb 19 dX) (eB er i n ts n ps) (dN er i n ts n ps) .ret (eB (bE ts ps i) i n ts n ps) (dN (bE ts ps i) i n ts n ps):=by
 obtain ⟨a0,a1⟩:=cm (ab i Z)
 obtain ⟨⟨N,O⟩,S,U⟩:=cY (a7 i Z)
 have G:=Ek a8 ad er i n ts n ps
 simp only [Int.toNat_natCast,Nat.zero_add] at G
 rw [dT (show (i:Int) < (n:Int) by omega),dT (show (0:Int)≤(i:Int) by omega),a0,cz a1] at G
 rcases JJ h with ⟨I,M⟩ | ⟨I,J,M⟩ | ⟨I,J,bx,a5,M⟩ <;> rw [M]
 ·rw [dF I] at G
  exact rq G
 ·rw [dT I,N,O,S,U,dF (show ¬ a8.kv (aM (ps.getD (i*6+0) undef)) (ah (ps.getD (i*6+1) undef)) (ah (ps.getD (i*6+2) undef)) (aM (ps.getD (i*6+3) undef)) (ah (ps.getD (i*6+4) undef)) (ah (ps.getD (i*6+5) undef))=0 from J)] at G
  exact rq G
 ·rw [dT I,N,O,S,U,dT (show a8.kv (aM (ps.getD (i*6+0) undef)) (ah (ps.getD (i*6+1) undef)) (ah (ps.getD (i*6+2) undef)) (aM (ps.getD (i*6+3) undef)) (ah (ps.getD (i*6+4) undef)) (ah (ps.getD (i*6+5) undef))=0 from J)] at G
  obtain ⟨j,rfl⟩:∃ j,i=j+1:= ⟨i - 1,by omega⟩
  obtain ⟨a2,a3⟩:=cm (ab j (by omega))
  have a4:((j+1:Nat):Int) - 1=(j:Int):=by omega
  simp only [a4,Int.toNat_natCast] at G
  rw [dT (show (0:Int) < ((j+1:Nat):Int) by omega),aO (z:=(j:Int)) (by omega),dT (show (0:Int)≤(j:Int) by omega),dT (show (j:Int) < (n:Int) by omega),a2,cz a3] at G
  have a6:0≤ad.cq (ad.qv (aM (ts.getD (j*3+0) undef)) (ah (ts.getD (j*3+1) undef)) (ah (ts.getD (j*3+2) undef))) (ad.qv (aM (ts.getD ((j+1)*3+0) undef)) (ah (ts.getD ((j+1)*3+1) undef)) (ah (ts.getD ((j+1)*3+2) undef))):=a5
  rw [dT a6] at G
  exact rq G
theorem W6 (I:n≤1000) (M:∀ j,j < n→cb ts j=true) (J:∀ j,j < n→cP ps j=true) (h:∀ j,j < n→bE ts ps j=0) (k:Nat):∀ i:Nat,n=i+k→aw Tryz.prog (lb 19 dX) (eB er i n ts n ps) (dN er i n ts n ps) (.exit 0) (eB er n n ts n ps) (dN er n n ts n ps):=by
 induction k with
 | zero=>
  intro i G
  have:i=n:=by omega
  subst this
  refine .last (rq ?_) (by intro h;cases h)
  rw [Ek,dF (show ¬ ((i:Nat):Int) < (i:Int) by omega)]
  rfl
 | succ k N=>
  intro i G
  exact .more (K0 i (by omega) I M J (h i (by omega))) (N (i+1) (by omega))
theorem Xa (G:n≤1000) (J:∀ j,j < n→cb ts j=true) (I:∀ j,j < n→cP ps j=true) (q:Nat) (O:q < n) (h:∀ j,j < q→bE ts ps j=0) (M:¬ bE ts ps q=0) (k:Nat):∀ i:Nat,q=i+k→aw Tryz.prog (lb 19 dX) (eB er i n ts n ps) (dN er i n ts n ps) .ret (eB (bE ts ps q) q n ts n ps) (dN (bE ts ps q) q n ts n ps):=by
 induction k with
 | zero=>
  intro i N
  have:i=q:=by omega
  subst this
  exact .last (W7 i O G J I M) (by intro h;cases h)
 | succ k S=>
  intro i N
  exact .more (K0 i (by omega) G J I (h i (by omega))) (S (i+1) (by omega))
end
def ui (er i:Int) (n:Nat) (ts:List Value) (m:Nat) (ps:List Value):Prop:=n=m∧i=0∧n≤1000∧(∀ j,j < n→cb ts j=true)∧(∀ j,j < n→cP ps j=true)∧∀ j,j < n→bE ts ps j=0
def Dl (er i:Int) (n:Nat) (ts:List Value) (m:Nat) (ps:List Value) (ρ:Int):Prop:=True
theorem XQ (er i:Int) (n:Nat) (ts:List Value) (m:Nat) (ps:List Value) (h:ui er i n ts m ps):∃ ρ:Int,aw Tryz.prog (lb 19 dX) (eB er i n ts m ps) (dN er i n ts m ps) (.exit 0) (eB er ρ n ts m ps) (dN er ρ n ts m ps)∧Dl er i n ts m ps ρ:=by
 obtain ⟨rfl,rfl,j,I,G,h⟩:=h
 exact ⟨_,W6 j I G h _ 0 (Nat.zero_add _).symm,trivial⟩
def F5 (J:Int→Int→Nat→List Value→Nat→List Value→Bool) (I:Int→Int→Nat→List Value→Nat→List Value→Int) (T:List AV) (H:Hp):Option (Bool×Ex×List AV×Hp):=
 match al T 1,al T 2,al T 3,H with
 | .ptr 0 0, .val (.int .i64 er), .val (.int .i64 i), [.row (.cells [.lst false 27 n G, .lst false 35 m j]) 25 .live]=>bif T.length==59 then some (au 3 n G&&au 6 m j&&J er i n (af 3 n G) m (af 6 m j), .exit 0,eB er ((I er i n (af 3 n G) m (af 6 m j))) n (af 3 n G) m (af 6 m j),dN er ((I er i n (af 3 n G) m (af 6 m j))) n (af 3 n G) m (af 6 m j)) else none
 | _,_,_,_=>none
abbrev Iu:Type:=Int→Int→Nat→List Value→Nat→List Value→Bool
abbrev HQ:Type:=Int→Int→Nat→List Value→Nat→List Value→Int
def AY (j:Iu) (G:HQ) (L:aE):aE:=bp 0 19 dX [1,2,3] (F5 j G) L
def qW (er:Int) (i:Int) (n:Nat) (ts:List Value) (m:Nat) (ps:List Value):Int:=Classical.epsilon fun ρ=>aw Tryz.prog (lb 19 dX) (eB er i n ts m ps) (dN er i n ts m ps) (.exit 0) (eB er (ρ) n ts m ps) (dN er (ρ) n ts m ps)∧Dl er i n ts m ps ρ
theorem Zl (er:Int) (i:Int) (n:Nat) (ts:List Value) (m:Nat) (ps:List Value) (h:ui er i n ts m ps):aw Tryz.prog (lb 19 dX) (eB er i n ts m ps) (dN er i n ts m ps) (.exit 0) (eB er ((qW er i n ts m ps)) n ts m ps) (dN er ((qW er i n ts m ps)) n ts m ps)∧Dl er i n ts m ps (qW er i n ts m ps):=Classical.epsilon_spec (XQ er i n ts m ps h)
def w4 (er:Int) (i:Int) (n:Nat) (ts:List Value) (m:Nat) (ps:List Value):Bool:= @decide (ui er i n ts m ps) (Classical.propDecidable _)
theorem TR (er:Int) (i:Int) (n:Nat) (ts:List Value) (m:Nat) (ps:List Value) (h:ui er i n ts m ps):w4 er i n ts m ps=true:= @decide_eq_true _ (Classical.propDecidable _) h
theorem adl (T:List AV) (H:Hp) (e:Ex) (I:List AV) (G:Hp) (h:F5 w4 qW T H=some (true,e,I,G)):V.Ends Tryz.prog false 0 0 (.loop (lb 19 dX)) T H e I G:=by
 unfold F5 at h
 split at h
 ·rename_i er i n O m N S U Z
  rw [Bool.cond_eq_ite] at h
  split at h
  ·rename_i J
   rw [beq_iff_eq] at J
   simp only [Option.some.injEq,Prod.mk.injEq,Bool.and_eq_true,decide_eq_true_eq] at h
   obtain ⟨⟨⟨k1,a1⟩,a2⟩,rfl,rfl,rfl⟩:=h
   have a3:= @of_decide_eq_true _ (Classical.propDecidable _) a2
   refine Ends.pre (Ends.cS (Zl er i n (af 3 n O) m (af 6 m N) a3).1.ends (aT.cons ⟨⟨rfl,fun _ _ _ _ _ ab=>ei (by kernel_rfl) (by kernel_rfl) k1 a1 ab⟩,rfl,rfl⟩ aT.nil)) (fun α B w D a4 a0=>bm J (fun p M y j=> ?_) a0)
   simp only [List.mem_cons,List.not_mem_nil,or_false] at M
   rcases M with rfl | rfl | rfl
   ·rw [S] at j;exact j
   ·rw [U] at j;exact j
   ·rw [Z] at j;exact j
  ·cases h
 ·cases h
theorem Qc {L:aE} (h:aB Tryz.prog L):aB Tryz.prog (AY w4 qW L):=h.br Rj adl
abbrev oY:List Bool:= [false,true,false,true,true,true,true]
def pt (er:Int) (i:Int) (n:Nat) (ts:List Value) (m:Nat) (ps:List Value):List AV:=av 59 [(1, .ptr 0 0),(2, .val (.int .i64 er)),(3, .val (.int .i64 i))]
def oI (er:Int) (i:Int) (n:Nat) (ts:List Value) (m:Nat) (ps:List Value):Hp:= [.row (.cells [.lst false 27 n (ag 3 ts), .lst false 35 m (ag 6 ps)]) 25 .live]
theorem Rk:aJ Tryz.prog 19 oY=some (.loop (lb 19 oY)):=by kernel_rfl
def uj (er i:Int) (n:Nat) (ts:List Value) (m:Nat) (ps:List Value):Prop:=n=m∧i=0∧n≤1000∧(∀ j,j < n→cb ts j=true)∧(∀ j,j < n→cP ps j=true)∧∃ q,q < n∧(∀ j,j < q→bE ts ps j=0)∧¬ bE ts ps q=0
def Dm (er i:Int) (n:Nat) (ts:List Value) (m:Nat) (ps:List Value) (ρ:Int×Int):Prop:=ρ.1=dw ts ps n
theorem XR (er i:Int) (n:Nat) (ts:List Value) (m:Nat) (ps:List Value) (h:uj er i n ts m ps):∃ ρ:Int×Int,aw Tryz.prog (lb 19 oY) (pt er i n ts m ps) (oI er i n ts m ps) .ret (pt ρ.1 ρ.2 n ts m ps) (oI ρ.1 ρ.2 n ts m ps)∧Dm er i n ts m ps ρ:=by
 obtain ⟨rfl,rfl,G,M,I,q,J,h,j⟩:=h
 have e:=JK h j (n - (q+1))
 rw [show q+1+(n - (q+1))=n by omega] at e
 exact ⟨(bE ts ps q,(q:Int)),Xa G M I q J h j q 0 (by omega),e.symm⟩
def F6 (J:Int→Int→Nat→List Value→Nat→List Value→Bool) (I:Int→Int→Nat→List Value→Nat→List Value→Int×Int) (T:List AV) (H:Hp):Option (Bool×Ex×List AV×Hp):=
 match al T 1,al T 2,al T 3,H with
 | .ptr 0 0, .val (.int .i64 er), .val (.int .i64 i), [.row (.cells [.lst false 27 n G, .lst false 35 m j]) 25 .live]=>bif T.length==59 then some (au 3 n G&&au 6 m j&&J er i n (af 3 n G) m (af 6 m j), .ret,pt ((I er i n (af 3 n G) m (af 6 m j)).1) ((I er i n (af 3 n G) m (af 6 m j)).2) n (af 3 n G) m (af 6 m j),oI ((I er i n (af 3 n G) m (af 6 m j)).1) ((I er i n (af 3 n G) m (af 6 m j)).2) n (af 3 n G) m (af 6 m j)) else none
 | _,_,_,_=>none
abbrev Iv:Type:=Int→Int→Nat→List Value→Nat→List Value→Bool
abbrev HR:Type:=Int→Int→Nat→List Value→Nat→List Value→Int×Int
def AZ (j:Iv) (G:HR) (L:aE):aE:=bp 0 19 oY [1,2,3] (F6 j G) L
def mE (er:Int) (i:Int) (n:Nat) (ts:List Value) (m:Nat) (ps:List Value):Int×Int:=Classical.epsilon fun ρ=>aw Tryz.prog (lb 19 oY) (pt er i n ts m ps) (oI er i n ts m ps) (.ret) (pt (ρ.1) (ρ.2) n ts m ps) (oI (ρ.1) (ρ.2) n ts m ps)∧Dm er i n ts m ps ρ
theorem Ml (er:Int) (i:Int) (n:Nat) (ts:List Value) (m:Nat) (ps:List Value) (h:uj er i n ts m ps):aw Tryz.prog (lb 19 oY) (pt er i n ts m ps) (oI er i n ts m ps) (.ret) (pt ((mE er i n ts m ps).1) ((mE er i n ts m ps).2) n ts m ps) (oI ((mE er i n ts m ps).1) ((mE er i n ts m ps).2) n ts m ps)∧Dm er i n ts m ps (mE er i n ts m ps):=Classical.epsilon_spec (XR er i n ts m ps h)
def w5 (er:Int) (i:Int) (n:Nat) (ts:List Value) (m:Nat) (ps:List Value):Bool:= @decide (uj er i n ts m ps) (Classical.propDecidable _)
theorem TS (er:Int) (i:Int) (n:Nat) (ts:List Value) (m:Nat) (ps:List Value) (h:uj er i n ts m ps):w5 er i n ts m ps=true:= @decide_eq_true _ (Classical.propDecidable _) h
theorem adm (T:List AV) (H:Hp) (e:Ex) (I:List AV) (G:Hp) (h:F6 w5 mE T H=some (true,e,I,G)):V.Ends Tryz.prog false 0 0 (.loop (lb 19 oY)) T H e I G:=by
 unfold F6 at h
 split at h
 ·rename_i er i n O m N S U Z
  rw [Bool.cond_eq_ite] at h
  split at h
  ·rename_i J
   rw [beq_iff_eq] at J
   simp only [Option.some.injEq,Prod.mk.injEq,Bool.and_eq_true,decide_eq_true_eq] at h
   obtain ⟨⟨⟨k1,a1⟩,a2⟩,rfl,rfl,rfl⟩:=h
   have a3:= @of_decide_eq_true _ (Classical.propDecidable _) a2
   refine Ends.pre (Ends.cS (Ml er i n (af 3 n O) m (af 6 m N) a3).1.ends (aT.cons ⟨⟨rfl,fun _ _ _ _ _ ab=>ei (by kernel_rfl) (by kernel_rfl) k1 a1 ab⟩,rfl,rfl⟩ aT.nil)) (fun α B w D a4 a0=>bm J (fun p M y j=> ?_) a0)
   simp only [List.mem_cons,List.not_mem_nil,or_false] at M
   rcases M with rfl | rfl | rfl
   ·rw [S] at j;exact j
   ·rw [U] at j;exact j
   ·rw [Z] at j;exact j
  ·cases h
 ·cases h
theorem Qd {L:aE} (h:aB Tryz.prog L):aB Tryz.prog (AZ w5 mE L):=h.br Rk adm
end
end Go.Proofs.YtamcpiicmfielaaGreat.L
namespace Go.Proofs.YtamcpiicmfielaaGreat.L
open Go Go.V Go.RowKit Go.Proofs.YtamcpiicmfielaaGreat.Sp
open Go.Proofs (Tryz.prog)
noncomputable section
abbrev bH (n:Nat) (ts:List Value) (m:Nat) (ps:List Value):AV:= .agg [.lst false 27 n (ag 3 ts), .lst false 35 m (ag 6 ps)]
structure Cg where
 ck:Nat→List Value→Nat→List Value→Int
 ko:Nat→List Value→Nat→List Value→Bool
def cW (n:Nat) (ts:List Value) (m:Nat) (ps:List Value):Bool:=(List.range n).all (cb ts)&&(List.range m).all (cP ps)
def aW:Cg where
 ck:=bJ
 ko:=cW
theorem nE {n:Nat} {ts:List Value} {m:Nat} {ps:List Value} (h:cW n ts m ps=true):(∀ j,j < n→cb ts j=true)∧∀ j,j < m→cP ps j=true:=by
 unfold cW at h
 rw [Bool.and_eq_true] at h
 exact ⟨fun j G=>wy h.1 G,fun j G=>wy h.2 G⟩
def eE (j:Cg):TF:=fun args=>match args with
 | [.agg [.lst _ 27 n f, .lst _ 35 m g]]=>some (au 3 n f&&au 6 m g&&j.ko n (af 3 n f) m (af 6 m g), .val (.int .i64 (j.ck n (af 3 n f) m (af 6 m g))))
 | _=>none
theorem Xb (j:Iw) (G:HU) (n:Nat) (ts:List Value) (m:Nat) (ps:List Value):aD Tryz.prog ⟨aF,ar,A0 j G aq⟩ 10 10 18 [bH n ts m ps]=
  (bif !decide ((↑n:Int)=(↑m:Int)) then some (.val (.int .i64 9)) else (bif decide ((↑n:Int)=(0:Int)) then some (.val (.int .i64 11)) else (bif decide ((1000:Int) < (↑n:Int)) then some (.val (.int .i64 4)) else (bif au (3:Nat) n (ag (3:Nat) ts)&&au (3:Nat) n (ag (3:Nat) ts)&&au (6:Nat) m (ag (6:Nat) ps)&&j (0:Int) n (af (3:Nat) n (ag (3:Nat) ts)) (↑n:Int) (0:Int) n (af (3:Nat) n (ag (3:Nat) ts)) m (af (6:Nat) m (ag (6:Nat) ps)) then some (.val (.int .i64 0)) else none)))):=by kernel_rfl
theorem Xf (j:Ix) (G:HW) (n:Nat) (ts:List Value) (m:Nat) (ps:List Value):aD Tryz.prog ⟨aF,ar,A1 j G aq⟩ 10 10 18 [bH n ts m ps]=
  (bif !decide ((↑n:Int)=(↑m:Int)) then some (.val (.int .i64 9)) else (bif decide ((↑n:Int)=(0:Int)) then some (.val (.int .i64 11)) else (bif decide ((1000:Int) < (↑n:Int)) then some (.val (.int .i64 4)) else (bif au (3:Nat) n (ag (3:Nat) ts)&&au (3:Nat) n (ag (3:Nat) ts)&&au (6:Nat) m (ag (6:Nat) ps)&&j (0:Int) n (af (3:Nat) n (ag (3:Nat) ts)) (↑n:Int) (0:Int) n (af (3:Nat) n (ag (3:Nat) ts)) m (af (6:Nat) m (ag (6:Nat) ps)) then some (.val (.int .i64 ((G (0:Int) n (af (3:Nat) n (ag (3:Nat) ts)) (↑n:Int) (0:Int) n (af (3:Nat) n (ag (3:Nat) ts)) m (af (6:Nat) m (ag (6:Nat) ps))).fst))) else none)))):=by kernel_rfl
theorem W5 (j:Iu) (G:HQ) (n:Nat) (ts:List Value) (m:Nat) (ps:List Value):aD Tryz.prog ⟨aF,ar,AY j G aq⟩ 10 10 19 [bH n ts m ps]=
  (bif !decide ((↑n:Int)=(↑m:Int)) then some (.val (.int .i64 9)) else (bif decide ((↑n:Int)=(0:Int)) then some (.val (.int .i64 11)) else (bif decide ((1000:Int) < (↑n:Int)) then some (.val (.int .i64 4)) else (bif au (3:Nat) n (ag (3:Nat) ts)&&au (6:Nat) m (ag (6:Nat) ps)&&j (0:Int) (0:Int) n (af (3:Nat) n (ag (3:Nat) ts)) m (af (6:Nat) m (ag (6:Nat) ps)) then some (.val (.int .i64 0)) else none)))):=by kernel_rfl
theorem W9 (j:Iv) (G:HR) (n:Nat) (ts:List Value) (m:Nat) (ps:List Value):aD Tryz.prog ⟨aF,ar,AZ j G aq⟩ 10 10 19 [bH n ts m ps]=
  (bif !decide ((↑n:Int)=(↑m:Int)) then some (.val (.int .i64 9)) else (bif decide ((↑n:Int)=(0:Int)) then some (.val (.int .i64 11)) else (bif decide ((1000:Int) < (↑n:Int)) then some (.val (.int .i64 4)) else (bif au (3:Nat) n (ag (3:Nat) ts)&&au (6:Nat) m (ag (6:Nat) ps)&&j (0:Int) (0:Int) n (af (3:Nat) n (ag (3:Nat) ts)) m (af (6:Nat) m (ag (6:Nat) ps)) then some (.val (.int .i64 ((G (0:Int) (0:Int) n (af (3:Nat) n (ag (3:Nat) ts)) m (af (6:Nat) m (ag (6:Nat) ps))).fst))) else none)))):=by kernel_rfl
theorem fE {fl j:Bool} {n m:Nat} {f g:Nat→Nat→AV} (G:au 3 n f=true) (I:au 6 m g=true):bu (.agg [.lst fl 27 n f, .lst j 35 m g]) (bH n (af 3 n f) m (af 6 m g)):=
 bu.agg (ba.cons (bu.row (by kernel_rfl) G) (ba.cons (bu.row (by kernel_rfl) I) (ba.refl _)))
theorem JI {f:FuncId} (U:fH Tryz.prog f=true) (H:∀ (n:Nat) (ts:List Value) (m:Nat) (ps:List Value),ts.length=n*3→ps.length=m*6→cW n ts m ps=true→∃ (E:Env) (u d:Nat),bb Tryz.prog E.C∧cL Tryz.prog E∧aD Tryz.prog E u d f [bH n ts m ps]=some (.val (.int .i64 (bJ n ts m ps)))):Entry Tryz.prog f (eE aW):=by
 refine dI U (fun args r h=> ?_)
 unfold eE at h
 split at h
 ·rename_i fl n j Z m G
  simp only [Option.some.injEq,Prod.mk.injEq,Bool.and_eq_true] at h
  obtain ⟨⟨⟨N,O⟩,S⟩,rfl⟩:=h
  obtain ⟨E,u,d,I,J,M⟩:=H n (af 3 n j) m (af 6 m G) (bP 3 n j) (bP 6 m G) S
  exact ⟨E,u,d,_,_,I,J,M,ba.cons (fE N O) (ba.refl _),bu.refl _⟩
 ·cases h
theorem Xe (n:Nat) (ts:List Value) (m:Nat) (ps:List Value) (l1:ts.length=n*3) (l2:ps.length=m*6) (a1:cW n ts m ps=true):∃ (E:Env) (u d:Nat),bb Tryz.prog E.C∧cL Tryz.prog E∧aD Tryz.prog E u d 18 [bH n ts m ps]=some (.val (.int .i64 (bJ n ts m ps))):=by
 obtain ⟨U,S⟩:=nE a1
 by_cases O:dw ts ps n=0
 ·
  refine ⟨⟨aF,ar,A0 w7 qX aq⟩,10,10,aH _,(Qe aB.none).ok, ?_⟩
  rw [Xb]
  by_cases G:n=m
  ·subst G
   rw [dT (show (n:Int)=n from rfl)]
   by_cases j:n=0
   ·rw [dT (show (n:Int)=0 by omega)]
    unfold bJ
    rw [if_neg (fun h=>h rfl),if_pos j];rfl
   rw [dF (show ¬ (n:Int)=0 by omega)]
   by_cases I:1000 < n
   ·rw [dT (show (1000:Int) < n by omega)]
    unfold bJ
    rw [if_neg (fun h=>h rfl),if_neg j,if_pos I];rfl
   rw [dF (show ¬ (1000:Int) < n by omega),bc l1,bc l2,bn,bn]
   unfold bJ
   rw [if_neg (fun h=>h rfl),if_neg j,if_neg I]
   have M:uk 0 n ts n 0 n ts n ps:= ⟨rfl,rfl,rfl,rfl,rfl,by omega,U,S,BB O⟩
   rw [TT _ _ _ _ _ _ _ _ _ M]
   rw [O];rfl
  ·rw [dF (show ¬ (n:Int)=(m:Int) by omega)]
   unfold bJ
   rw [if_pos G];rfl
 ·
  refine ⟨⟨aF,ar,A1 w9 mF aq⟩,10,10,aH _,(Qf aB.none).ok, ?_⟩
  rw [Xf]
  by_cases G:n=m
  ·subst G
   rw [dT (show (n:Int)=n from rfl)]
   by_cases j:n=0
   ·rw [dT (show (n:Int)=0 by omega)]
    unfold bJ
    rw [if_neg (fun h=>h rfl),if_pos j];rfl
   rw [dF (show ¬ (n:Int)=0 by omega)]
   by_cases I:1000 < n
   ·rw [dT (show (1000:Int) < n by omega)]
    unfold bJ
    rw [if_neg (fun h=>h rfl),if_neg j,if_pos I];rfl
   rw [dF (show ¬ (1000:Int) < n by omega),bc l1,bc l2,bn,bn]
   unfold bJ
   rw [if_neg (fun h=>h rfl),if_neg j,if_neg I]
   have M:um 0 n ts n 0 n ts n ps:=by
    refine ⟨rfl,rfl,rfl,rfl,rfl,by omega,U,S, ?_⟩
    have Z:(List.range n).any (fun J=> !decide (bE ts ps J=0))=true:=by
     rw [List.any_eq_true]
     apply Classical.byContradiction
     intro a0
     refine O (BC fun J N=>Classical.byContradiction fun ab=>a0 ⟨J,List.mem_range.2 N, ?_⟩)
     rw [decide_eq_false ab];rfl
    obtain ⟨q,a2,a3,a4⟩:=xG n Z
    refine ⟨q,a2,fun J N=> ?_, ?_⟩
    ·have:=a3 J N
     rwa [Bool.not_eq_false',decide_eq_true_eq] at this
    ·rwa [Bool.not_eq_true',decide_eq_false_iff_not] at a4
   rw [TU _ _ _ _ _ _ _ _ _ M]
   rw [show (mF 0 n ts n 0 n ts n ps).1=dw ts ps n from (Mm _ _ _ _ _ _ _ _ _ M).2];rfl
  ·rw [dF (show ¬ (n:Int)=(m:Int) by omega)]
   unfold bJ
   rw [if_pos G];rfl
theorem W8 (n:Nat) (ts:List Value) (m:Nat) (ps:List Value) (l1:ts.length=n*3) (l2:ps.length=m*6) (a1:cW n ts m ps=true):∃ (E:Env) (u d:Nat),bb Tryz.prog E.C∧cL Tryz.prog E∧aD Tryz.prog E u d 19 [bH n ts m ps]=some (.val (.int .i64 (bJ n ts m ps))):=by
 obtain ⟨U,S⟩:=nE a1
 by_cases O:dw ts ps n=0
 ·
  refine ⟨⟨aF,ar,AY w4 qW aq⟩,10,10,aH _,(Qc aB.none).ok, ?_⟩
  rw [W5]
  by_cases G:n=m
  ·subst G
   rw [dT (show (n:Int)=n from rfl)]
   by_cases j:n=0
   ·rw [dT (show (n:Int)=0 by omega)]
    unfold bJ
    rw [if_neg (fun h=>h rfl),if_pos j];rfl
   rw [dF (show ¬ (n:Int)=0 by omega)]
   by_cases I:1000 < n
   ·rw [dT (show (1000:Int) < n by omega)]
    unfold bJ
    rw [if_neg (fun h=>h rfl),if_neg j,if_pos I];rfl
   rw [dF (show ¬ (1000:Int) < n by omega),bc l1,bc l2,bn,bn]
   unfold bJ
   rw [if_neg (fun h=>h rfl),if_neg j,if_neg I]
   have M:ui 0 0 n ts n ps:= ⟨rfl,rfl,by omega,U,S,BB O⟩
   rw [TR _ _ _ _ _ _ M]
   rw [O];rfl
  ·rw [dF (show ¬ (n:Int)=(m:Int) by omega)]
   unfold bJ
   rw [if_pos G];rfl
 ·
  refine ⟨⟨aF,ar,AZ w5 mE aq⟩,10,10,aH _,(Qd aB.none).ok, ?_⟩
  rw [W9]
  by_cases G:n=m
  ·subst G
   rw [dT (show (n:Int)=n from rfl)]
   by_cases j:n=0
   ·rw [dT (show (n:Int)=0 by omega)]
    unfold bJ
    rw [if_neg (fun h=>h rfl),if_pos j];rfl
   rw [dF (show ¬ (n:Int)=0 by omega)]
   by_cases I:1000 < n
   ·rw [dT (show (1000:Int) < n by omega)]
    unfold bJ
    rw [if_neg (fun h=>h rfl),if_neg j,if_pos I];rfl
   rw [dF (show ¬ (1000:Int) < n by omega),bc l1,bc l2,bn,bn]
   unfold bJ
   rw [if_neg (fun h=>h rfl),if_neg j,if_neg I]
   have M:uj 0 0 n ts n ps:=by
    refine ⟨rfl,rfl,by omega,U,S, ?_⟩
    have Z:(List.range n).any (fun J=> !decide (bE ts ps J=0))=true:=by
     rw [List.any_eq_true]
     apply Classical.byContradiction
     intro a0
     refine O (BC fun J N=>Classical.byContradiction fun ab=>a0 ⟨J,List.mem_range.2 N, ?_⟩)
     rw [decide_eq_false ab];rfl
    obtain ⟨q,a2,a3,a4⟩:=xG n Z
    refine ⟨q,a2,fun J N=> ?_, ?_⟩
    ·have:=a3 J N
     rwa [Bool.not_eq_false',decide_eq_true_eq] at this
    ·rwa [Bool.not_eq_true',decide_eq_false_iff_not] at a4
   rw [TS _ _ _ _ _ _ M]
   rw [show (mE 0 0 n ts n ps).1=dw ts ps n from (Ml _ _ _ _ _ _ M).2];rfl
  ·rw [dF (show ¬ (n:Int)=(m:Int) by omega)]
   unfold bJ
   rw [if_pos G];rfl
theorem nv:Entry Tryz.prog 18 (eE aW):=JI (by kernel_rfl) Xe
theorem qo:Entry Tryz.prog 19 (eE aW):=JI (by kernel_rfl) W8
end
end Go.Proofs.YtamcpiicmfielaaGreat.L
namespace Go.Proofs.YtamcpiicmfielaaGreat.L
open Go Go.V Go.RowKit Go.Proofs.YtamcpiicmfielaaGreat.Sp Go.Proofs.YtamcpiicmfielaaGreat.F
open Go.Proofs (Tryz.prog)
noncomputable section
def toBC:Nat→Nat→List UInt8
 | 0,_=> []
 | k+1,n=>if n=0 then [] else toBC k (n / 256) ++ [UInt8.ofNat n]
theorem toBC_eq (k:Nat):∀ n,n < 256 ^ k→toBC k n=toB n:=by
 induction k with
 | zero=>
  intro n h
  have:n=0:=by rw [Nat.pow_zero] at h;omega
  subst this
  unfold toB;rfl
 | succ k G=>
  intro n h
  unfold toB toBC
  by_cases j:n=0
  ·rw [if_pos j,dif_pos j]
  ·rw [if_neg j,dif_neg j,G (n / 256) (by rw [Nat.pow_succ] at h;exact Nat.div_lt_of_lt_mul (by rw [Nat.mul_comm];exact h))]
def qG (n:Nat):ByteArray:=if n < 281474976710656 then ⟨(toBC 6 n).toArray⟩ else az n
theorem Lu:qG=az:=by
 funext n
 unfold qG
 split
 ·rename_i h
  rw [toBC_eq 6 n h];rfl
 ·rfl
def NO (mg:Nat→ByteArray):Sg:= { aa with ms:=fun z=>mg z.natAbs }
def MW (mg:Nat→ByteArray) (q:Rat):ByteArray:=if q.den=1 then ByteArray.mk #[] else mg q.den
def N0 (mg:Nat→ByteArray):Qg:= { ad with
 qs:=fun q=>mg q.num.natAbs
 qd:=MW mg
 ck:=fun b n d=>bif (b==uZ (iL b n d))&&aG n (mg (iL b n d).num.natAbs)&&aG d (MW mg (iL b n d)) then 0 else 1 }
theorem abz:aa=NO qG:=by rw [Lu];rfl
theorem abT:ad=N0 qG:=by rw [Lu];rfl
def GZ (G:Sg) (X:Xg) (j:Qg):FuncId→TF:=an 87 (FE X j) (an 28 (FD j) (an 29 (nX j) (an 31 (pJ j) (an 30 (rF j) (an 42 (vD j) (an 23 (rE j) (an 27 (y8 j) (an 49 (ma j) (an 122 (FC G j) (an 84 (pI G X j) (an 123 (FH G X) (an 69 (kB G) (an 75 (kA G) (an 64 (nV G) aF))))))))))))))
theorem PB:bb Tryz.prog (GZ aa aZ ad):=(((((((((((((((aH _).add J4).add xt).add xu).add V2).add BV).add VB).add oz).add Kb).add xv).add BW).add tb).add ql).add oy).add VE).add VF
def r7:FuncId→Bool:=fun g=> !(g==98 ||g==99)
def Fq:TF:=fun args=>match args with | []=>some (true, .val (.bool true)) | _=>none
theorem Q2:aD Tryz.prog ⟨GZ (NO qG) aZ (N0 qG),r7,aq⟩ 20 20 9 []=some (.val (.bool true)):=by kernel_rfl
theorem BP:Entry Tryz.prog 9 Fq:=aX PB aK mixed (by kernel_rfl) (fun args r h=>by
 unfold Fq at h
 split at h
 ·cases h;rw [abz,abT];exact Q2
 ·cases h)
end
end Go.Proofs.YtamcpiicmfielaaGreat.L
namespace Go.Proofs.YtamcpiicmfielaaGreat.L
open Go Go.V Go.RowKit Go.Proofs.YtamcpiicmfielaaGreat.Sp
open Go.Proofs (Tryz.prog)
noncomputable section
def Qg.pair (j:Qg) (a b:Rat):AV:= .agg [.val (.bool (j.qn a)), .val (.string (j.qs a)), .val (.string (j.qd a)), .val (.bool (j.qn b)), .val (.string (j.qs b)), .val (.string (j.qd b))]
theorem aeh (j:Qg) (b c a3 a4 S:Bool) (n d m e a0 U ab Z I G:BA):letI N:=(j.qv a3 a0 U - j.qv b n d);letI J:=(j.qv (j.qn N) (j.qs N) (j.qd N)*j.qv S I G);letI O:=(j.qv a4 ab Z - j.qv c m e);letI M:=(j.qv (j.qn O) (j.qs O) (j.qd O)*j.qv S I G);letI a1:=(j.qv b n d+j.qv (j.qn J) (j.qs J) (j.qd J));letI a2:=(j.qv c m e+j.qv (j.qn M) (j.qs M) (j.qd M));
  (aD Tryz.prog ⟨oc j,ar,aq⟩ 10 10 32 [w6 b n d c m e,w6 a3 a0 U a4 ab Z,w3 S I G]=(bif j.ok a0 U&&j.ok n d then (bif j.ok ab Z&&j.ok m e then (bif j.ok (j.qs N) (j.qd N)&&j.ok I G then (bif j.ok (j.qs O) (j.qd O)&&j.ok I G then (bif j.ok n d&&j.ok (j.qs J) (j.qd J) then (bif j.ok m e&&j.ok (j.qs M) (j.qd M) then some (.agg [(.val (.bool (j.qn a1))),(.val (.string (j.qs a1))),(.val (.string (j.qd a1))),(.val (.bool (j.qn a2))),(.val (.string (j.qs a2))),(.val (.string (j.qd a2)))]) else none) else none) else none) else none) else none) else none)):=by kernel_rfl
theorem abn (j:Qg) (b c a3 a4 S:Bool) (n d m e a0 U ab Z I G:BA):letI N:=(j.qv a3 a0 U - j.qv b n d);letI J:=(j.qv (j.qn N) (j.qs N) (j.qd N)*j.qv S I G);letI O:=(j.qv a4 ab Z - j.qv c m e);letI M:=(j.qv (j.qn O) (j.qs O) (j.qd O)*j.qv S I G);letI a1:=(j.qv b n d+j.qv (j.qn J) (j.qs J) (j.qd J));letI a2:=(j.qv c m e+j.qv (j.qn M) (j.qs M) (j.qd M));
  (aD Tryz.prog ⟨rY j,ar,aq⟩ 10 10 101 [w6 b n d c m e,w6 a3 a0 U a4 ab Z,w3 S I G]=(bif j.aL a0 U&&j.aL n d then (bif j.aL ab Z&&j.aL m e then (bif j.aL (j.qs N) (j.qd N)&&j.aL I G then (bif j.aL (j.qs O) (j.qd O)&&j.aL I G then (bif j.aL n d&&j.aL (j.qs J) (j.qd J) then (bif j.aL m e&&j.aL (j.qs M) (j.qd M) then some (.agg [(.val (.bool (j.qn a1))),(.val (.string (j.qs a1))),(.val (.string (j.qd a1))),(.val (.bool (j.qn a2))),(.val (.string (j.qs a2))),(.val (.string (j.qd a2)))]) else none) else none) else none) else none) else none) else none)):=by kernel_rfl
def HC (j:Qg):Env:= ⟨an 23 (bM (rE j)) aF,r7,aq⟩
abbrev gh:List Bool:= [false,false,true,true]
def kq (n0:Int) (i:Int) (j:Int) (n:Nat) (ts:List Value) (m:Nat) (ps:List Value) (xb:Bool) (xn:ByteArray) (xd:ByteArray) (z0:Bool) (z1:ByteArray) (z2:ByteArray) (z3:Bool) (z4:ByteArray) (z5:ByteArray):List AV:=av 26 [(0, .val (.int .i64 n0)),(1, .clo (.func 99) [] [.ptr 0 0,.ptr 1 0]),(5, .val (.int .i64 i)),(6, .val (.int .i64 j))]
def jB (n0:Int) (i:Int) (j:Int) (n:Nat) (ts:List Value) (m:Nat) (ps:List Value) (xb:Bool) (xn:ByteArray) (xd:ByteArray) (z0:Bool) (z1:ByteArray) (z2:ByteArray) (z3:Bool) (z4:ByteArray) (z5:ByteArray):Hp:= [.row (.cells [.lst false 27 n (ag 3 ts), .lst false 35 m (ag 6 ps)]) 25 .live, .row (.cells [.val (.bool xb), .val (.string xn), .val (.string xd)]) 27 .live, .row (.cells [.val (.bool z0), .val (.string z1), .val (.string z2), .val (.bool z3), .val (.string z4), .val (.string z5)]) 35 .live]
theorem RQ:aJ Tryz.prog 98 gh=some (.loop (lb 98 gh)):=by kernel_rfl
theorem Tu:aJ Tryz.prog 98 (false :: gh)=some (lb 98 gh):=by kernel_rfl
theorem Nt (I:Qg) (n0:Int) (i:Int) (G:Int) (n:Nat) (ts:List Value) (m:Nat) (ps:List Value) (xb:Bool) (xn:ByteArray) (xd:ByteArray) (z0:Bool) (z1:ByteArray) (z2:ByteArray) (z3:Bool) (z4:ByteArray) (z5:ByteArray):letI j:=((IntKind.u64.wrap (i+G)).fdiv (2:Int));letI J:=(ts.getD ((IntKind.i64.wrap j).toNat*(3:Nat)+(1:Nat)) undef);letI M:=(ts.getD ((IntKind.i64.wrap j).toNat*(3:Nat)+(2:Nat)) undef);
  (iN Tryz.prog (HC I) 3 98 [0,1,5,6] (lb 98 gh) (false :: gh) (kq n0 i G n ts m ps xb xn xd z0 z1 z2 z3 z4 z5) (jB n0 i G n ts m ps xb xn xd z0 z1 z2 z3 z4 z5)=(bif decide (i < G) then (bif aj IntKind.i64 (i+G) then (bif decide ((0:Int)≤IntKind.i64.wrap j)&&decide (IntKind.i64.wrap j < (↑n:Int)) then (bif aS (ts.getD ((IntKind.i64.wrap j).toNat*(3:Nat)+(0:Nat)) undef) J M&&true&&(I.ok (ah J) (ah M)&&I.ok xn xd) then (bif !decide ((0:Int)≤I.cq (I.qv (aM (ts.getD ((IntKind.i64.wrap j).toNat*(3:Nat)+(0:Nat)) undef)) (ah J) (ah M)) (I.qv xb xn xd)) then (bif aj IntKind.i64 (IntKind.i64.wrap j+(1:Int)) then some (.normal,av 26 [(0,(.val (.int .i64 n0))),(1,(.clo (Fn.func (99:FuncId)) [] [(.ptr 0 0),(.ptr 1 0)])),(5,(.val (.int .i64 (IntKind.i64.wrap j+(1:Int))))),(6,(.val (.int .i64 G)))], [(.row (.cells [(.lst false 27 n (ag (3:Nat) ts)),(.lst false 35 m (ag (6:Nat) ps))]) 25 .live),(.row (.cells [(.val (.bool xb)),(.val (.string xn)),(.val (.string xd))]) 27 .live),(.row (.cells [(.val (.bool z0)),(.val (.string z1)),(.val (.string z2)),(.val (.bool z3)),(.val (.string z4)),(.val (.string z5))]) 35 .live)]) else none) else some (.normal,av 26 [(0,(.val (.int .i64 n0))),(1,(.clo (Fn.func (99:FuncId)) [] [(.ptr 0 0),(.ptr 1 0)])),(5,(.val (.int .i64 i))),(6,(.val (.int .i64 (IntKind.i64.wrap j))))], [(.row (.cells [(.lst false 27 n (ag (3:Nat) ts)),(.lst false 35 m (ag (6:Nat) ps))]) 25 .live),(.row (.cells [(.val (.bool xb)),(.val (.string xn)),(.val (.string xd))]) 27 .live),(.row (.cells [(.val (.bool z0)),(.val (.string z1)),(.val (.string z2)),(.val (.bool z3)),(.val (.string z4)),(.val (.string z5))]) 35 .live)])) else none) else none) else none) else some ((.exit 0),av 26 [(0,(.val (.int .i64 n0))),(1,(.clo (Fn.func (99:FuncId)) [] [(.ptr 0 0),(.ptr 1 0)])),(5,(.val (.int .i64 i))),(6,(.val (.int .i64 G)))], [(.row (.cells [(.lst false 27 n (ag (3:Nat) ts)),(.lst false 35 m (ag (6:Nat) ps))]) 25 .live),(.row (.cells [(.val (.bool xb)),(.val (.string xn)),(.val (.string xd))]) 27 .live),(.row (.cells [(.val (.bool z0)),(.val (.string z1)),(.val (.string z2)),(.val (.bool z3)),(.val (.string z4)),(.val (.string z5))]) 35 .live)]))):=by kernel_rfl
theorem Fc {n0:Int} {i:Int} {j:Int} {n:Nat} {ts:List Value} {m:Nat} {ps:List Value} {xb:Bool} {xn:ByteArray} {xd:ByteArray} {z0:Bool} {z1:ByteArray} {z2:ByteArray} {z3:Bool} {z4:ByteArray} {z5:ByteArray} {e:Ex} {T:List AV} {H:Hp} (h:iN Tryz.prog (HC ad) 3 98 [0,1,5,6] (lb 98 gh) (false :: gh) (kq n0 i j n ts m ps xb xn xd z0 z1 z2 z3 z4 z5) (jB n0 i j n ts m ps xb xn xd z0 z1 z2 z3 z4 z5)=some (e,T,H)):V.Ends Tryz.prog false 3 0 (lb 98 gh) (kq n0 i j n ts m ps xb xn xd z0 z1 z2 z3 z4 z5) (jB n0 i j n ts m ps xb xn xd z0 z1 z2 z3 z4 z5) e T H:=
 vd ((aH _).add xv.bM) aK mixed Tu h
theorem Yx (i j:Nat) (h:i+j≤4000):IntKind.i64.wrap ((IntKind.u64.wrap ((i:Int)+(j:Int))).fdiv 2)=(((i+j) / 2:Nat):Int):=by
 have G:IntKind.u64.wrap ((i:Int)+(j:Int))=((i+j:Nat):Int):=by
  unfold IntKind.wrap
  simp [IntKind.signed,IntKind.bits]
  omega
 rw [G,show ((i+j:Nat):Int).fdiv 2=(((i+j) / 2:Nat):Int) by rw [Int.fdiv_eq_ediv_of_nonneg _ (by decide)];omega]
 unfold IntKind.wrap
 simp [IntKind.signed,IntKind.bits]
 omega
theorem BJ {a b:Rat} :0≤ad.cq a b↔¬ a < b:=by
 show 0≤ij a b↔_
 unfold ij
 split
 ·rename_i h
  exact ⟨fun j=>by omega,fun j=>absurd h j⟩
 ·rename_i h
  exact ⟨fun _=>h,fun _=>by split <;> omega⟩
def cB (ts:List Value) (x:Rat):Nat→Nat
 | 0=>0
 | n+1=>if cB ts x n=n then (if qt ts n < x then n+1 else n) else cB ts x n
theorem vq (ts:List Value) (x:Rat) (n:Nat):cB ts x n≤n∧(∀ k,k < cB ts x n→qt ts k < x)∧(cB ts x n < n→¬ qt ts (cB ts x n) < x):=by
 induction n with
 | zero=>exact ⟨Nat.le_refl _,fun k G=>absurd G (Nat.not_lt_zero k),fun h=>absurd h (Nat.lt_irrefl 0)⟩
 | succ n N=>
  obtain ⟨O,j,J⟩:=N
  unfold cB
  split
  ·rename_i S
   split
   ·rename_i I
    refine ⟨Nat.le_refl _,fun k G=> ?_,fun h=>by omega⟩
    by_cases M:k=n
    ·subst M;exact I
    ·exact j k (by omega)
   ·rename_i I
    exact ⟨by omega,fun k G=>j k (by omega),fun _=>I⟩
  ·exact ⟨by omega,j,fun h=>J (by omega)⟩
theorem abV {ts:List Value} {x:Rat} {n s:Nat} (N:s≤n) (I:∀ k,k < s→qt ts k < x) (J:s < n→¬ qt ts s < x):s=cB ts x n:=by
 obtain ⟨M,j,G⟩:=vq ts x n
 rcases Nat.lt_trichotomy s (cB ts x n) with h | h | h
 ·exact absurd (j s h) (J (by omega))
 ·exact h
 ·exact absurd (I _ h) (G (by omega))
structure mf (n:Nat) (ts:List Value):Prop where
 ai:n≤1000
 ok:∀ j,j < n→cb ts j=true
 up:∀ j,j+1 < n→qt ts j < qt ts (j+1)
theorem mf.mono {n:Nat} {ts:List Value} (h:mf n ts) {a:Nat} (d:Nat):a+d < n→qt ts a≤qt ts (a+d):=by
 induction d with
 | zero=>intro _;exact Rat.le_refl
 | succ d j=>
  intro G
  exact Rat.le_trans (j (by omega)) (Rat.le_of_lt (h.up (a+d) (by omega)))
theorem mf.le {n:Nat} {ts:List Value} (h:mf n ts) {a b:Nat} (j:a≤b) (G:b < n):qt ts a≤qt ts b:=by
 obtain ⟨d,rfl⟩:=Nat.exists_eq_add_of_le j
 exact h.mono d G
section
variable {n : Nat} {ts ps : List Value} {xb : Bool} {xn xd : BA} {z0 : Bool} {z1 z2 : BA} {z3 : Bool} {z4 z5 : BA}
theorem abW (h:mf n ts) (a6:bo xn xd=true) (d:Nat):∀ i j:Nat,i≤j→j≤n→j - i≤d→(∀ k,k < i→qt ts k < ad.qv xb xn xd)→(∀ k,j≤k→k < n→¬ qt ts k < ad.qv xb xn xd)→
  bQ Tryz.prog 3 (lb 98 gh) (kq n i j n ts n ps xb xn xd z0 z1 z2 z3 z4 z5) (jB n i j n ts n ps xb xn xd z0 z1 z2 z3 z4 z5) (.exit 0) (kq n (cB ts (ad.qv xb xn xd) n:Nat) (cB ts (ad.qv xb xn xd) n:Nat) n ts n ps xb xn xd z0 z1 z2 z3 z4 z5) (jB n (cB ts (ad.qv xb xn xd) n:Nat) (cB ts (ad.qv xb xn xd) n:Nat) n ts n ps xb xn xd z0 z1 z2 z3 z4 z5):=by
 induction d with
 | zero=>
  intro i j S J a1 I M
  have:i=j:=by omega
  subst this
  have a7:=abV (n:=n) J I (fun a5=>M i (Nat.le_refl _) a5)
  rw [← a7]
  refine .last (Fc ?_) (by intro h;cases h)
  rw [Nt,dF (show ¬ ((i:Nat):Int) < (i:Int) by omega)]
  rfl
 | succ d O=>
  intro i j S J a1 I M
  by_cases bx:i=j
  ·exact O i j S J (by omega) I M
  ·have bD:=h.ai
   obtain ⟨ab,a0⟩:=cm (h.ok ((i+j) / 2) (by omega))
   have G:=Nt ad n i j n ts n ps xb xn xd z0 z1 z2 z3 z4 z5
   rw [Yx i j (by omega)] at G
   simp only [Int.toNat_natCast] at G
   rw [dT (show (i:Int) < (j:Int) by omega),aO (z:=(i:Int)+(j:Int)) (by omega),dT (show (0:Int)≤(((i+j) / 2:Nat):Int) by omega),dT (show (((i+j) / 2:Nat):Int) < (n:Int) by omega),ab,cy a0,cy a6] at G
   by_cases U:qt ts ((i+j) / 2) < ad.qv xb xn xd
   ·have N:¬ 0≤ad.cq (ad.qv (aM (ts.getD ((i+j) / 2*3+0) undef)) (ah (ts.getD ((i+j) / 2*3+1) undef)) (ah (ts.getD ((i+j) / 2*3+2) undef))) (ad.qv xb xn xd):=fun a2=>BJ.1 a2 U
    rw [dF N,aO (z:=(((i+j) / 2:Nat):Int)+1) (by omega)] at G
    refine .more (Fc G) (O ((i+j) / 2+1) j (by omega) J (by omega) (fun k Z=> ?_) M)
    by_cases a3:k < i
    ·exact I k a3
    ·have:=h.le (show k≤(i+j) / 2 by omega) (by omega)
     grind
   ·have N:0≤ad.cq (ad.qv (aM (ts.getD ((i+j) / 2*3+0) undef)) (ah (ts.getD ((i+j) / 2*3+1) undef)) (ah (ts.getD ((i+j) / 2*3+2) undef))) (ad.qv xb xn xd):=BJ.2 U
    rw [dT N] at G
    refine .more (Fc G) (O i ((i+j) / 2) (by omega) (by omega) (by omega) I (fun k Z a4=> ?_))
    have:=h.le Z a4
    grind
end
def uR (n0 i j:Int) (n:Nat) (ts:List Value) (m:Nat) (ps:List Value) (xb:Bool) (xn xd:BA) (z0:Bool) (z1 z2:BA) (z3:Bool) (z4 z5:BA):Prop:=n0=(n:Int)∧n=m∧i=0∧j=(n:Int)∧mf n ts∧bo xn xd=true
def DK (n0 i j:Int) (n:Nat) (ts:List Value) (m:Nat) (ps:List Value) (xb:Bool) (xn xd:BA) (z0:Bool) (z1 z2:BA) (z3:Bool) (z4 z5:BA) (ρ:Int×Int):Prop:=ρ.1=(cB ts (ad.qv xb xn xd) n:Nat)
theorem Ym (n0 i j:Int) (n:Nat) (ts:List Value) (m:Nat) (ps:List Value) (xb:Bool) (xn xd:BA) (z0:Bool) (z1 z2:BA) (z3:Bool) (z4 z5:BA) (h:uR n0 i j n ts m ps xb xn xd z0 z1 z2 z3 z4 z5):∃ ρ:Int×Int,bQ Tryz.prog 3 (lb 98 gh) (kq n0 i j n ts m ps xb xn xd z0 z1 z2 z3 z4 z5) (jB n0 i j n ts m ps xb xn xd z0 z1 z2 z3 z4 z5) (.exit 0) (kq n0 ρ.1 ρ.2 n ts m ps xb xn xd z0 z1 z2 z3 z4 z5) (jB n0 ρ.1 ρ.2 n ts m ps xb xn xd z0 z1 z2 z3 z4 z5)∧DK n0 i j n ts m ps xb xn xd z0 z1 z2 z3 z4 z5 ρ:=by
 obtain ⟨rfl,rfl,rfl,rfl,J,I⟩:=h
 exact ⟨(_,_),abW J I n 0 n (Nat.zero_le _) (Nat.le_refl _) (by omega) (fun k G=>by cases G) (fun k M N=>by omega),rfl⟩
def GD (M:Int→Int→Int→Nat→List Value→Nat→List Value→Bool→ByteArray→ByteArray→Bool→ByteArray→ByteArray→Bool→ByteArray→ByteArray→Bool) (J:Int→Int→Int→Nat→List Value→Nat→List Value→Bool→ByteArray→ByteArray→Bool→ByteArray→ByteArray→Bool→ByteArray→ByteArray→Int×Int) (T:List AV) (H:Hp):Option (Bool×Ex×List AV×Hp):=
 match al T 0,al T 1,al T 5,al T 6,H with
 | .val (.int .i64 n0), .clo (.func 99) [] [.ptr 0 0,.ptr 1 0], .val (.int .i64 i), .val (.int .i64 I), [.row (.cells [.lst false 27 n G, .lst false 35 m j]) 25 .live, .row (.cells [.val (.bool xb), .val (.string xn), .val (.string xd)]) 27 .live, .row (.cells [.val (.bool z0), .val (.string z1), .val (.string z2), .val (.bool z3), .val (.string z4), .val (.string z5)]) 35 .live]=>bif T.length==26 then some (au 3 n G&&au 6 m j&&M n0 i I n (af 3 n G) m (af 6 m j) xb xn xd z0 z1 z2 z3 z4 z5, .exit 0,kq n0 ((J n0 i I n (af 3 n G) m (af 6 m j) xb xn xd z0 z1 z2 z3 z4 z5).1) ((J n0 i I n (af 3 n G) m (af 6 m j) xb xn xd z0 z1 z2 z3 z4 z5).2) n (af 3 n G) m (af 6 m j) xb xn xd z0 z1 z2 z3 z4 z5,jB n0 ((J n0 i I n (af 3 n G) m (af 6 m j) xb xn xd z0 z1 z2 z3 z4 z5).1) ((J n0 i I n (af 3 n G) m (af 6 m j) xb xn xd z0 z1 z2 z3 z4 z5).2) n (af 3 n G) m (af 6 m j) xb xn xd z0 z1 z2 z3 z4 z5) else none
 | _,_,_,_,_=>none
abbrev IL:Type:=Int→Int→Int→Nat→List Value→Nat→List Value→Bool→ByteArray→ByteArray→Bool→ByteArray→ByteArray→Bool→ByteArray→ByteArray→Bool
abbrev Ie:Type:=Int→Int→Int→Nat→List Value→Nat→List Value→Bool→ByteArray→ByteArray→Bool→ByteArray→ByteArray→Bool→ByteArray→ByteArray→Int×Int
def wu (j:IL) (G:Ie) (L:aE):aE:=bp 3 98 gh [0,1,5,6] (GD j G) L
def lS (n0:Int) (i:Int) (j:Int) (n:Nat) (ts:List Value) (m:Nat) (ps:List Value) (xb:Bool) (xn:ByteArray) (xd:ByteArray) (z0:Bool) (z1:ByteArray) (z2:ByteArray) (z3:Bool) (z4:ByteArray) (z5:ByteArray):Int×Int:=Classical.epsilon fun ρ=>bQ Tryz.prog 3 (lb 98 gh) (kq n0 i j n ts m ps xb xn xd z0 z1 z2 z3 z4 z5) (jB n0 i j n ts m ps xb xn xd z0 z1 z2 z3 z4 z5) (.exit 0) (kq n0 (ρ.1) (ρ.2) n ts m ps xb xn xd z0 z1 z2 z3 z4 z5) (jB n0 (ρ.1) (ρ.2) n ts m ps xb xn xd z0 z1 z2 z3 z4 z5)∧DK n0 i j n ts m ps xb xn xd z0 z1 z2 z3 z4 z5 ρ
theorem ML (n0:Int) (i:Int) (j:Int) (n:Nat) (ts:List Value) (m:Nat) (ps:List Value) (xb:Bool) (xn:ByteArray) (xd:ByteArray) (z0:Bool) (z1:ByteArray) (z2:ByteArray) (z3:Bool) (z4:ByteArray) (z5:ByteArray) (h:uR n0 i j n ts m ps xb xn xd z0 z1 z2 z3 z4 z5):bQ Tryz.prog 3 (lb 98 gh) (kq n0 i j n ts m ps xb xn xd z0 z1 z2 z3 z4 z5) (jB n0 i j n ts m ps xb xn xd z0 z1 z2 z3 z4 z5) (.exit 0) (kq n0 ((lS n0 i j n ts m ps xb xn xd z0 z1 z2 z3 z4 z5).1) ((lS n0 i j n ts m ps xb xn xd z0 z1 z2 z3 z4 z5).2) n ts m ps xb xn xd z0 z1 z2 z3 z4 z5) (jB n0 ((lS n0 i j n ts m ps xb xn xd z0 z1 z2 z3 z4 z5).1) ((lS n0 i j n ts m ps xb xn xd z0 z1 z2 z3 z4 z5).2) n ts m ps xb xn xd z0 z1 z2 z3 z4 z5)∧DK n0 i j n ts m ps xb xn xd z0 z1 z2 z3 z4 z5 (lS n0 i j n ts m ps xb xn xd z0 z1 z2 z3 z4 z5):=Classical.epsilon_spec (Ym n0 i j n ts m ps xb xn xd z0 z1 z2 z3 z4 z5 h)
def sT (n0:Int) (i:Int) (j:Int) (n:Nat) (ts:List Value) (m:Nat) (ps:List Value) (xb:Bool) (xn:ByteArray) (xd:ByteArray) (z0:Bool) (z1:ByteArray) (z2:ByteArray) (z3:Bool) (z4:ByteArray) (z5:ByteArray):Bool:= @decide (uR n0 i j n ts m ps xb xn xd z0 z1 z2 z3 z4 z5) (Classical.propDecidable _)
theorem Ur (n0:Int) (i:Int) (j:Int) (n:Nat) (ts:List Value) (m:Nat) (ps:List Value) (xb:Bool) (xn:ByteArray) (xd:ByteArray) (z0:Bool) (z1:ByteArray) (z2:ByteArray) (z3:Bool) (z4:ByteArray) (z5:ByteArray) (h:uR n0 i j n ts m ps xb xn xd z0 z1 z2 z3 z4 z5):sT n0 i j n ts m ps xb xn xd z0 z1 z2 z3 z4 z5=true:= @decide_eq_true _ (Classical.propDecidable _) h
theorem adR (T:List AV) (H:Hp) (e:Ex) (I:List AV) (G:Hp) (h:GD sT lS T H=some (true,e,I,G)):V.Ends Tryz.prog false 3 0 (.loop (lb 98 gh)) T H e I G:=by
 unfold GD at h
 split at h
 ·rename_i n0 i a2 n O m N xb xn xd z0 z1 z2 z3 z4 z5 S U Z ab
  rw [Bool.cond_eq_ite] at h
  split at h
  ·rename_i J
   rw [beq_iff_eq] at J
   simp only [Option.some.injEq,Prod.mk.injEq,Bool.and_eq_true,decide_eq_true_eq] at h
   obtain ⟨⟨⟨k1,a3⟩,a4⟩,rfl,rfl,rfl⟩:=h
   have a5:= @of_decide_eq_true _ (Classical.propDecidable _) a4
   refine Ends.pre (Ends.cS (ML n0 i a2 n (af 3 n O) m (af 6 m N) xb xn xd z0 z1 z2 z3 z4 z5 a5).1.ends (aT.cons ⟨⟨rfl,fun _ _ _ _ _ a0=>ei (by kernel_rfl) (by kernel_rfl) k1 a3 a0⟩,rfl,rfl⟩ (aT.cons (bI.refl _) (aT.cons (bI.refl _) aT.nil)))) (fun α B w D a6 a1=>bm J (fun p M y j=> ?_) a1)
   simp only [List.mem_cons,List.not_mem_nil,or_false] at M
   rcases M with rfl | rfl | rfl | rfl
   ·rw [S] at j;exact j
   ·rw [U] at j;exact j
   ·rw [Z] at j;exact j
   ·rw [ab] at j;exact j
  ·cases h
 ·cases h
theorem QG {L:aE} (h:aB Tryz.prog L):aB Tryz.prog (wu sT lS L):=h.br RQ adR
end
end Go.Proofs.YtamcpiicmfielaaGreat.L
namespace Go.Proofs.YtamcpiicmfielaaGreat.L
open Go Go.V Go.RowKit Go.Proofs.YtamcpiicmfielaaGreat.Sp
open Go.Proofs (Tryz.prog)
noncomputable section
structure Vg where
 eO:BA→BA→Bool
 nc:Rat→Rat→Rat→Rat
 nM:Nat→List Value→List Value→Rat→Rat
 nN:Nat→List Value→List Value→Rat→Rat
 pk:Nat→List Value→Nat→List Value→BA→BA→Bool
def p5 (f:Bool→BA→BA→Bool→BA→BA→Bool→BA→BA→Bool→BA→BA→Bool→BA→BA→Option (Bool×AV)):TF:=fun args=>match args with
 | [.agg [.val (.bool b), .val (.string n), .val (.string d), .val (.bool c), .val (.string m), .val (.string e)], .agg [.val (.bool j), .val (.string S), .val (.string J), .val (.bool I), .val (.string O), .val (.string N)], .agg [.val (.bool G), .val (.string U), .val (.string M)]]=>f b n d c m e j S J I O N G U M
 | _=>none
def rL (K:Hg) (V:Vg) (j:Qg):TF:=p5 fun b n d c m e U S M Z O N J I G=>some (K.ok n d&&K.ok m e&&K.ok S M&&K.ok O N&&V.eO I G,j.pair (V.nc (j.qv b n d) (j.qv U S M) (j.qv J I G)) (V.nc (j.qv c m e) (j.qv Z O N) (j.qv J I G)))
def Jq (a b t:Rat):Rat:=a+(b - a)*t
def bq (n:Nat) (ts:List Value) (c:Nat→Rat) (x:Rat):Rat:=
 if cB ts x n=0 then c 0 else if cB ts x n=n then c (n - 1) else Jq (c (cB ts x n - 1)) (c (cB ts x n)) ((x - qt ts (cB ts x n - 1)) / (qt ts (cB ts x n) - qt ts (cB ts x n - 1)))
structure c9 (n:Nat) (ts:List Value) (m:Nat) (ps:List Value):Prop where
 eq:n=m
 pos:0 < n
 ts:mf n ts
 dh:∀ j,j < n→cP ps j=true
 can:∀ j,j < n→lx ps j=0
def mM (n:Nat) (ts:List Value) (m:Nat) (ps:List Value) (xn xd:BA):Bool:= @decide (c9 n ts m ps) (Classical.propDecidable _)&&bo xn xd
def cC:Vg where
 eO n d:=decide (n.size≤100000)&&decide (d.size≤100000)
 nc:=Jq
 nM n ts ps x:=bq n ts (px ps) x
 nN n ts ps x:=bq n ts (py ps) x
 pk:=mM
theorem tM {n d:BA} (h:cC.eO n d=true):n.size≤100000∧d.size≤100000:=by
 have j:(decide (n.size≤100000)&&decide (d.size≤100000))=true:=h
 rwa [Bool.and_eq_true,decide_eq_true_eq,decide_eq_true_eq] at j
theorem qO {b:Bool} {n d:BA} (h:cC.eO n d=true):bg (ad.qv b n d)≤100000:=by
 have:=nT b n d
 have:=tM h
 omega
theorem tN {n d:BA} (h:cC.eO n d=true):ad.ok n d=true:=DQ (by have:=tM h;omega) (by have:=tM h;omega)
theorem Y6 {n d:BA} (h:cC.eO n d=true):ad.aL n d=true:=u4 (by have:=tM h;omega) (by have:=tM h;omega)
theorem wC (a b t:Rat):cC.nc a b t=a+(b - a)*t:=rfl
theorem Wc:Entry Tryz.prog 32 (rL a8 cC ad):=by
 refine aX (E:= ⟨oc ad,ar,aq⟩) (u:=10) (d:=10) zL aK mixed (by kernel_rfl) (fun args r h=> ?_)
 unfold rL p5 at h
 split at h
 ·rename_i b n d c m e j a2 J I a1 N G a3 M
  simp only [Option.some.injEq,Prod.mk.injEq,Bool.and_eq_true] at h
  obtain ⟨⟨⟨⟨⟨O,S⟩,U⟩,Z⟩,ab⟩,rfl⟩:=h
  have a0:=aeh ad b c j I G n d m e a2 J a1 N a3 M
  have bx:=lD O
  have bD:=lD S
  have b0:=lD U
  have b1:=lD Z
  have b2:=tN ab
  have b3:=fG (b:=b) O
  have b4:=fG (b:=c) S
  have b5:=fG (b:=j) U
  have b6:=fG (b:=I) Z
  have b7:=qO (b:=G) ab
  rw [wC,wC]
  generalize ad.qv b n d=x at*
  generalize ad.qv c m e=y at*
  generalize ad.qv j a2 J=u at*
  generalize ad.qv I a1 N=v at*
  generalize ad.qv G a3 M=t at*
  have z1:=gv u x
  have z2:=gv v y
  have z3:=gu (u - x) t
  have z4:=gu (v - y) t
  have a4:=df (q:=u - x) (by omega)
  have a5:=df (q:=v - y) (by omega)
  have a6:=df (q:=(u - x)*t) (by omega)
  have a7:=df (q:=(v - y)*t) (by omega)
  simp only [gT,bx,bD,b0,b1,b2,a4,a5,a6,a7,Bool.and_self,cond_true] at a0
  exact a0
 ·cases h
theorem VY:Entry Tryz.prog 101 (rL a8 cC ad):=by
 refine aX (E:= ⟨rY ad,ar,aq⟩) (u:=10) (d:=10) G8 aK mixed (by kernel_rfl) (fun args r h=> ?_)
 unfold rL p5 at h
 split at h
 ·rename_i b n d c m e j a2 J I a1 N G a3 M
  simp only [Option.some.injEq,Prod.mk.injEq,Bool.and_eq_true] at h
  obtain ⟨⟨⟨⟨⟨O,S⟩,U⟩,Z⟩,ab⟩,rfl⟩:=h
  have a0:=abn ad b c j I G n d m e a2 J a1 N a3 M
  have bx:=lE O
  have bD:=lE S
  have b0:=lE U
  have b1:=lE Z
  have b2:=Y6 ab
  have b3:=fG (b:=b) O
  have b4:=fG (b:=c) S
  have b5:=fG (b:=j) U
  have b6:=fG (b:=I) Z
  have b7:=qO (b:=G) ab
  rw [wC,wC]
  generalize ad.qv b n d=x at*
  generalize ad.qv c m e=y at*
  generalize ad.qv j a2 J=u at*
  generalize ad.qv I a1 N=v at*
  generalize ad.qv G a3 M=t at*
  have z1:=gv u x
  have z2:=gv v y
  have z3:=gu (u - x) t
  have z4:=gu (v - y) t
  have a4:=dz (q:=u - x) (by omega)
  have a5:=dz (q:=v - y) (by omega)
  have a6:=dz (q:=(u - x)*t) (by omega)
  have a7:=dz (q:=(v - y)*t) (by omega)
  simp only [gT,bx,bD,b0,b1,b2,a4,a5,a6,a7,Bool.and_self,cond_true] at a0
  exact a0
 ·cases h
def vT (K:Hg) (V:Vg) (j:Qg):FuncId→TF:=an 31 (bM (pJ j)) (an 42 (bM (vD j)) (an 32 (gD (rL K V j)) aF))
theorem Zr (K:Hg) (V:Vg) (G:Qg) (b3:IL) (b4:Ie) (n:Nat) (ts:List Value) (m:Nat) (ps:List Value) (xb:Bool) (xn xd:BA):letI J:=(af (3:Nat) n (ag (3:Nat) ts));letI I:=(af (6:Nat) m (ag (6:Nat) ps));letI j:=(b4 (↑n:Int) (0:Int) (↑n:Int) n J m I xb xn xd false (ByteArray.mk #[]) (ByteArray.mk #[]) false (ByteArray.mk #[]) (ByteArray.mk #[]));letI a2:=(J.getD ((j.fst - (1:Int)).toNat*(3:Nat)+(0:Nat)) undef);letI O:=(J.getD ((j.fst - (1:Int)).toNat*(3:Nat)+(1:Nat)) undef);letI N:=(J.getD ((j.fst - (1:Int)).toNat*(3:Nat)+(2:Nat)) undef);letI U:=(G.qv xb xn xd - G.qv (aM a2) (ah O) (ah N));letI a5:=(J.getD (j.fst.toNat*(3:Nat)+(1:Nat)) undef);letI a6:=(J.getD (j.fst.toNat*(3:Nat)+(2:Nat)) undef);letI S:=(G.qv (aM (J.getD (j.fst.toNat*(3:Nat)+(0:Nat)) undef)) (ah a5) (ah a6) - G.qv (aM a2) (ah O) (ah N));letI M:=(G.qv (G.qn U) (G.qs U) (G.qd U) / G.qv (G.qn S) (G.qs S) (G.qd S));letI a3:=(I.getD ((j.fst - (1:Int)).toNat*(6:Nat)+(0:Nat)) undef);letI Z:=(I.getD ((j.fst - (1:Int)).toNat*(6:Nat)+(1:Nat)) undef);letI ab:=(I.getD ((j.fst - (1:Int)).toNat*(6:Nat)+(2:Nat)) undef);letI a7:=(I.getD (j.fst.toNat*(6:Nat)+(1:Nat)) undef);letI bx:=(I.getD (j.fst.toNat*(6:Nat)+(2:Nat)) undef);letI b1:=(V.nc (G.qv (aM a3) (ah Z) (ah ab)) (G.qv (aM (I.getD (j.fst.toNat*(6:Nat)+(0:Nat)) undef)) (ah a7) (ah bx)) (G.qv (G.qn M) (G.qs M) (G.qd M)));letI a4:=(I.getD ((j.fst - (1:Int)).toNat*(6:Nat)+(3:Nat)) undef);letI a0:=(I.getD ((j.fst - (1:Int)).toNat*(6:Nat)+(4:Nat)) undef);letI a1:=(I.getD ((j.fst - (1:Int)).toNat*(6:Nat)+(5:Nat)) undef);letI bD:=(I.getD (j.fst.toNat*(6:Nat)+(4:Nat)) undef);letI b0:=(I.getD (j.fst.toNat*(6:Nat)+(5:Nat)) undef);letI b2:=(V.nc (G.qv (aM a4) (ah a0) (ah a1)) (G.qv (aM (I.getD (j.fst.toNat*(6:Nat)+(3:Nat)) undef)) (ah bD) (ah b0)) (G.qv (G.qn M) (G.qs M) (G.qd M)));
  (aD Tryz.prog ⟨vT K V G,r7,wu b3 b4 aq⟩ 10 10 50 [bH n ts m ps,w3 xb xn xd]=(bif au (3:Nat) n (ag (3:Nat) ts)&&au (6:Nat) m (ag (6:Nat) ps)&&b3 (↑n:Int) (0:Int) (↑n:Int) n J m I xb xn xd false (ByteArray.mk #[]) (ByteArray.mk #[]) false (ByteArray.mk #[]) (ByteArray.mk #[]) then (bif decide (j.fst=(0:Int)) then (bif decide ((0:Int) < (↑m:Int)) then (bif [(fun q=>ag (6:Nat) I (Int.toNat (0:Int)) ((0:Nat)+q)) (nat_lit 0),(fun q=>ag (6:Nat) I (Int.toNat (0:Int)) ((0:Nat)+q)) (nat_lit 1),(fun q=>ag (6:Nat) I (Int.toNat (0:Int)) ((0:Nat)+q)) (nat_lit 2),(fun q=>ag (6:Nat) I (Int.toNat (0:Int)) ((0:Nat)+q)) (nat_lit 3),(fun q=>ag (6:Nat) I (Int.toNat (0:Int)) ((0:Nat)+q)) (nat_lit 4),(fun q=>ag (6:Nat) I (Int.toNat (0:Int)) ((0:Nat)+q)) (nat_lit 5)].all eP then some (.agg [(.val (I.getD (0:Nat) undef)),(.val (I.getD (1:Nat) undef)),(.val (I.getD (2:Nat) undef)),(.val (I.getD (3:Nat) undef)),(.val (I.getD (4:Nat) undef)),(.val (I.getD (5:Nat) undef))]) else none) else none) else (bif decide (j.fst=(↑n:Int)) then (bif aj IntKind.i64 (j.fst - (1:Int)) then (bif decide ((0:Int)≤j.fst - (1:Int))&&decide (j.fst - (1:Int) < (↑m:Int)) then (bif [(fun q=>ag (6:Nat) I (j.fst - (1:Int)).toNat ((0:Nat)+q)) (nat_lit 0),(fun q=>ag (6:Nat) I (j.fst - (1:Int)).toNat ((0:Nat)+q)) (nat_lit 1),(fun q=>ag (6:Nat) I (j.fst - (1:Int)).toNat ((0:Nat)+q)) (nat_lit 2),(fun q=>ag (6:Nat) I (j.fst - (1:Int)).toNat ((0:Nat)+q)) (nat_lit 3),(fun q=>ag (6:Nat) I (j.fst - (1:Int)).toNat ((0:Nat)+q)) (nat_lit 4),(fun q=>ag (6:Nat) I (j.fst - (1:Int)).toNat ((0:Nat)+q)) (nat_lit 5)].all eP then some (.agg [(.val a3),(.val Z),(.val ab),(.val a4),(.val a0),(.val a1)]) else none) else none) else none) else (bif aj IntKind.i64 (j.fst - (1:Int)) then (bif decide ((0:Int)≤j.fst - (1:Int))&&decide (j.fst - (1:Int) < (↑n:Int)) then (bif aS a2 O N&&(G.ok xn xd&&G.ok (ah O) (ah N)) then (bif decide ((0:Int)≤j.fst)&&decide (j.fst < (↑n:Int)) then (bif aj IntKind.i64 (j.fst - (1:Int)) then (bif decide ((0:Int)≤j.fst - (1:Int))&&decide (j.fst - (1:Int) < (↑n:Int)) then (bif aS (J.getD (j.fst.toNat*(3:Nat)+(0:Nat)) undef) a5 a6&&aS a2 O N&&(G.ok (ah a5) (ah a6)&&G.ok (ah O) (ah N)) then (bif G.ok (G.qs U) (G.qd U)&&G.ok (G.qs S) (G.qd S) then (bif aj IntKind.i64 (j.fst - (1:Int)) then (bif decide ((0:Int)≤j.fst - (1:Int))&&decide (j.fst - (1:Int) < (↑m:Int)) then (bif decide ((0:Int)≤j.fst)&&decide (j.fst < (↑m:Int)) then (bif aS a3 Z ab&&aS a4 a0 a1&&(aS (I.getD (j.fst.toNat*(6:Nat)+(0:Nat)) undef) a7 bx&&aS (I.getD (j.fst.toNat*(6:Nat)+(3:Nat)) undef) bD b0)&&(K.ok (ah Z) (ah ab)&&K.ok (ah a0) (ah a1)&&K.ok (ah a7) (ah bx)&&K.ok (ah bD) (ah b0)&&V.eO (G.qs M) (G.qd M)) then some (.agg [(.val (.bool (G.qn b1))),(.val (.string (G.qs b1))),(.val (.string (G.qd b1))),(.val (.bool (G.qn b2))),(.val (.string (G.qs b2))),(.val (.string (G.qd b2)))]) else none) else none) else none) else none) else none) else none) else none) else none) else none) else none) else none) else none))) else none)):=by kernel_rfl
theorem Ss {b:Bool} {n d:BA} (h:ad.ck b n d=0):b=ad.qn (ad.qv b n d)∧n=ad.qs (ad.qv b n d)∧d=ad.qd (ad.qv b n d):=by
 have G:(bif (b==uZ (iL b n d))&&aG n (yE (iL b n d))&&aG d (kS (iL b n d)) then (0:Int) else 1)=0:=h
 cases j:(b==uZ (iL b n d))&&aG n (yE (iL b n d))&&aG d (kS (iL b n d)) with
 | false=>rw [j] at G;cases G
 | true=>
  simp only [Bool.and_eq_true,beq_iff_eq,vy,decide_eq_true_eq] at j
  exact ⟨j.1.1,j.1.2,j.2⟩
theorem sr {x y z:Value} (h:aS x y z=true) (O:ad.ck (aM x) (ah y) (ah z)=0):x= .bool (ad.qn (ad.qv (aM x) (ah y) (ah z)))∧y= .string (ad.qs (ad.qv (aM x) (ah y) (ah z)))∧z= .string (ad.qd (ad.qv (aM x) (ah y) (ah z))):=by
 obtain ⟨J,M,N⟩:=fe h
 obtain ⟨j,G,I⟩:=Ss O
 exact ⟨by rw [← j];exact J,by rw [← G];exact M,by rw [← I];exact N⟩
theorem K2 {ps:List Value} {j:Nat} (h:lx ps j=0):ad.ck (aM (ps.getD (j*6+0) undef)) (ah (ps.getD (j*6+1) undef)) (ah (ps.getD (j*6+2) undef))=0∧ad.ck (aM (ps.getD (j*6+3) undef)) (ah (ps.getD (j*6+4) undef)) (ah (ps.getD (j*6+5) undef))=0:=by
 unfold lx at h
 rw [CK] at h
 cases G:decide (ad.ck (aM (ps.getD (j*6+0) undef)) (ah (ps.getD (j*6+1) undef)) (ah (ps.getD (j*6+2) undef))=0)&&decide (ad.ck (aM (ps.getD (j*6+3) undef)) (ah (ps.getD (j*6+4) undef)) (ah (ps.getD (j*6+5) undef))=0) with
 | false=>rw [G] at h;cases h
 | true=>rwa [Bool.and_eq_true,decide_eq_true_eq,decide_eq_true_eq] at G
theorem Bs {ps:List Value} {j:Nat} (h:cP ps j=true) (Z:lx ps j=0):AV.agg [.val (ps.getD (j*6+0) undef), .val (ps.getD (j*6+1) undef), .val (ps.getD (j*6+2) undef), .val (ps.getD (j*6+3) undef), .val (ps.getD (j*6+4) undef), .val (ps.getD (j*6+5) undef)]=ad.pair (px ps j) (py ps j):=by
 obtain ⟨⟨k1,ab⟩,_,_⟩:=cY h
 obtain ⟨S,U⟩:=K2 Z
 obtain ⟨G,I,J⟩:=sr k1 S
 obtain ⟨M,N,O⟩:=sr ab U
 unfold Qg.pair px py MV
 rw [← G,← I,← J,← M,← N,← O]
theorem yi {ps:List Value} {j:Nat} (h:cP ps j=true): [ag 6 ps j 0,ag 6 ps j 1,ag 6 ps j 2,ag 6 ps j 3,ag 6 ps j 4,ag 6 ps j 5].all eP=true:=by
 obtain ⟨⟨k1,S⟩,_,_⟩:=cY h
 obtain ⟨G,I,J⟩:=fe k1
 obtain ⟨M,N,O⟩:=fe S
 unfold ag
 rw [G,I,J,M,N,O];rfl
theorem lG {ts:List Value} {j:Nat} (h:cb ts j=true):bg (qt ts j)≤1000:=by
 obtain ⟨_,G⟩:=cm h
 have:=mz G
 have:=nT (aM (ts.getD (j*3+0) undef)) (ah (ts.getD (j*3+1) undef)) (ah (ts.getD (j*3+2) undef))
 unfold qt
 omega
theorem yg {q:Rat} (h:bg q≤100000):cC.eO (ad.qs q) (ad.qd q)=true:=by
 unfold bg at h
 have j:=EF q
 have G:=EE q
 show (decide _&&decide _)=true
 rw [decide_eq_true (show (ad.qs q).size≤100000 by omega),decide_eq_true (show (ad.qd q).size≤100000 by omega)];rfl
theorem MR {n:Nat} {ts:List Value} {m:Nat} {ps:List Value} {xn xd:BA} (h:mM n ts m ps xn xd=true):c9 n ts m ps∧bo xn xd=true:=by
 unfold mM at h
 rw [Bool.and_eq_true] at h
 exact ⟨@of_decide_eq_true _ (Classical.propDecidable _) h.1,h.2⟩
theorem kT (ts:List Value) (j:Nat):ad.qv (aM (ts.getD (j*3+0) undef)) (ah (ts.getD (j*3+1) undef)) (ah (ts.getD (j*3+2) undef))=qt ts j:=rfl
theorem yA (ps:List Value) (j:Nat):ad.qv (aM (ps.getD (j*6+0) undef)) (ah (ps.getD (j*6+1) undef)) (ah (ps.getD (j*6+2) undef))=px ps j:=rfl
theorem yB (ps:List Value) (j:Nat):ad.qv (aM (ps.getD (j*6+3) undef)) (ah (ps.getD (j*6+4) undef)) (ah (ps.getD (j*6+5) undef))=py ps j:=rfl
def rD (V:Vg) (j:Qg):TF:=fun args=>match args with
 | [.agg [.lst _ 27 n f, .lst _ 35 m g], .agg [.val (.bool xb), .val (.string xn), .val (.string xd)]]=>some (au 3 n f&&au 6 m g&&V.pk n (af 3 n f) m (af 6 m g) xn xd,j.pair (V.nM n (af 3 n f) (af 6 m g) (j.qv xb xn xd)) (V.nN n (af 3 n f) (af 6 m g) (j.qv xb xn xd)))
 | _=>none
theorem PE:bb Tryz.prog (vT a8 cC ad):=(((aH _).add Wc.gD).add BW.bM).add ql.bM
theorem Zs (n:Nat) (ts:List Value) (m:Nat) (ps:List Value) (xb:Bool) (xn xd:BA) (l1:ts.length=n*3) (l2:ps.length=m*6) (b0:mM n ts m ps xn xd=true):
  aD Tryz.prog ⟨vT a8 cC ad,r7,wu sT lS aq⟩ 10 10 50 [bH n ts m ps,w3 xb xn xd]=some (ad.pair (bq n ts (px ps) (ad.qv xb xn xd)) (bq n ts (py ps) (ad.qv xb xn xd))):=by
 obtain ⟨j,M⟩:=MR b0
 obtain rfl:=j.eq
 have U:uR n 0 n n ts n ps xb xn xd false (ByteArray.mk #[]) (ByteArray.mk #[]) false (ByteArray.mk #[]) (ByteArray.mk #[]):= ⟨rfl,rfl,rfl,rfl,j.ts,M⟩
 have b1:=(ML _ _ _ _ _ _ _ _ _ _ _ _ _ _ _ _ U).2
 have b2:(lS n 0 n n ts n ps xb xn xd false (ByteArray.mk #[]) (ByteArray.mk #[]) false (ByteArray.mk #[]) (ByteArray.mk #[])).fst=((cB ts (ad.qv xb xn xd) n:Nat):Int):=b1
 obtain ⟨b3,b4,b5⟩:=vq ts (ad.qv xb xn xd) n
 have O:=j.pos
 have b6:=j.ts.ai
 rw [Zr,bc l1,bc l2,bn,bn,Ur _ _ _ _ _ _ _ _ _ _ _ _ _ _ _ _ U,b2]
 unfold bq
 have b7:bg (ad.qv xb xn xd)≤1000:=by
  have:=mz M
  have:=nT xb xn xd
  omega
 generalize cB ts (ad.qv xb xn xd) n=s at*
 cases s with
 | zero=>
  rw [dT (show ((0:Nat):Int)=0 from rfl),dT (show (0:Int) < (n:Int) by omega),if_pos rfl,if_pos rfl]
  have I:=yi (j.dh 0 O)
  have J:=Bs (j.dh 0 O) (j.can 0 O)
  simp only [Int.toNat_zero,Nat.zero_add,I,Bool.and_self,cond_true]
  exact congrArg some J
 | succ k=>
  have S:((k+1:Nat):Int) - 1=(k:Int):=by omega
  rw [dF (show ¬ ((k+1:Nat):Int)=0 by omega),if_neg (show ¬ k+1=0 by omega),if_neg (show ¬ k+1=0 by omega)]
  have N:=j.dh k (by omega)
  have I:=yi N
  have J:=Bs N (j.can k (by omega))
  by_cases G:k+1=n
  ·rw [if_pos G,if_pos G,dT (show ((k+1:Nat):Int)=(n:Int) by omega)]
   simp only [S,Int.toNat_natCast,Nat.zero_add,I]
   rw [aO (z:=(k:Int)) (by omega),dT (show (0:Int)≤(k:Int) by omega),dT (show (k:Int) < (n:Int) by omega),show n - 1=k by omega]
   exact congrArg some J
  ·obtain ⟨⟨a0,a1⟩,a2,a3⟩:=cY N
   obtain ⟨⟨a4,a5⟩,a6,a7⟩:=cY (j.dh (k+1) (by omega))
   obtain ⟨Z,ab⟩:=cm (j.ts.ok k (by omega))
   obtain ⟨bx,bD⟩:=cm (j.ts.ok (k+1) (by omega))
   have z1:=lG (j.ts.ok k (by omega))
   have z2:=lG (j.ts.ok (k+1) (by omega))
   rw [if_neg G,if_neg G,dF (show ¬ ((k+1:Nat):Int)=(n:Int) by omega)]
   simp only [S,Int.toNat_natCast,kT,yA,yB,gT]
   have b8:=gv (ad.qv xb xn xd) (qt ts k)
   have ch:=gv (qt ts (k+1)) (qt ts k)
   have ct:=Fo (ad.qv xb xn xd - qt ts k) (qt ts (k+1) - qt ts k)
   rw [aO (z:=(k:Int)) (by omega),dT (show (0:Int)≤(k:Int) by omega),dT (show (k:Int) < (n:Int) by omega),dT (show (0:Int)≤((k+1:Nat):Int) by omega),dT (show ((k+1:Nat):Int) < (n:Int) by omega),Z,cy ab,bx,cy bD,cy M,a0,a1,a2,a3,a4,a5,a6,a7,
    df (q:=ad.qv xb xn xd - qt ts k) (by omega),df (q:=qt ts (k+1) - qt ts k) (by omega),yg (q:=(ad.qv xb xn xd - qt ts k) / (qt ts (k+1) - qt ts k)) (by omega)]
   rfl
theorem VA:Entry Tryz.prog 50 (rD cC ad):=by
 refine dI (by kernel_rfl) (fun args r h=> ?_)
 unfold rD at h
 split at h
 ·rename_i fl n f J m g xb xn xd
  simp only [Option.some.injEq,Prod.mk.injEq,Bool.and_eq_true] at h
  obtain ⟨⟨⟨j,G⟩,I⟩,rfl⟩:=h
  exact ⟨⟨vT a8 cC ad,r7,wu sT lS aq⟩,10,10,_,_,PE,(QG aB.none).ok,Zs n _ m _ xb xn xd (bP 3 n f) (bP 6 m g) I,ba.cons (fE j G) (ba.refl _),bu.refl _⟩
 ·cases h
end
end Go.Proofs.YtamcpiicmfielaaGreat.L
