import Derived.Test.YtamcpiicmfielaaGreatZHX
import Derived.Test.YtamcpiicmfielaaGreatZUA
import Derived.Test.YtamcpiicmfielaaGreatZQA
import Derived.Test.YtamcpiicmfielaaGreatZMD
set_option linter.unusedVariables false
set_option linter.unusedSimpArgs false
namespace Go.Proofs.YtamcpiicmfielaaGreat.L
open Go Go.V Go.RowKit Go.Proofs.YtamcpiicmfielaaGreat.Sp
open Go.Proofs (Tryz.prog)
noncomputable section
def dB (ts:List Value) (j:Nat):Bool:=aY (ts.getD (j*3+0) undef) (ts.getD (j*3+1) undef) (ts.getD (j*3+2) undef)
theorem DP {x y z:Value} (h:aY x y z=true):b8 x=true∧bb y=true∧bb z=true:=by
 obtain ⟨G,I,J⟩:=j6 h
 exact ⟨by rw [G];rfl,by rw [I];rfl,by rw [J];rfl⟩
abbrev fH:List Bool:= [false,true,false,true,true]
def ir (r:Bool) (i:Int) (n:Nat) (ts:List Value) (m:Nat) (ps:List Value) (I:Nat) (M:List Value) (G:Nat) (J:List Value):List AV:=ar 59 [(2, .ptr 0 0),(3, .ptr 1 0),(4, .val (.bool r)),(5, .val (.int .i64 i))]
def ia (r:Bool) (i:Int) (n:Nat) (ts:List Value) (m:Nat) (ps:List Value) (I:Nat) (M:List Value) (G:Nat) (J:List Value):Hp:= [.row (.cells [.lst false 27 n (ad 3 ts), .lst false 35 m (ad 6 ps)]) 25 .live, .row (.cells [.lst false 27 I (ad 3 M), .lst false 35 G (ad 6 J)]) 25 .live]
theorem T9:aH Tryz.prog 20 fH=some (.loop (lb 20 fH)):=by kernel_rfl
theorem VK:aH Tryz.prog 20 (false :: fH)=some (lb 20 fH):=by kernel_rfl
theorem Pp (r:Bool) (i:Int) (n:Nat) (ts:List Value) (m:Nat) (ps:List Value) (I:Nat) (G:List Value) (M:Nat) (O:List Value):letI U:=(i.toNat*3+1);letI Z:=(i.toNat*3+2);letI ab:=(aG (ah (ts.getD U undef)) (ah (G.getD U undef))&&(aG (ah (ts.getD Z undef)) (ah (G.getD Z undef))&&true));letI J:=(i.toNat*3+0);
  (aO Tryz.prog ⟨aK,au,aq⟩ 20 [2,3,4,5] (lb 20 fH) (false :: fH) (ir r i n ts m ps I G M O) (ia r i n ts m ps I G M O)=(bif decide (i < (↑n:Int)) then (bif decide (0≤i)&&decide (i < (↑n:Int)) then (bif decide (0≤i)&&decide (i < (↑I:Int)) then (bif b8 (ts.getD J undef)&&b8 (G.getD J undef) then (bif bb (ts.getD U undef)&&bb (G.getD U undef) then (bif bb (ts.getD Z undef)&&bb (G.getD Z undef) then (bif bif true then !(az (ts.getD J undef)==az (G.getD J undef)&&ab) else az (ts.getD J undef)==az (G.getD J undef)&&ab then some (.ret,ar 59 [(2,(.ptr 0 0)),(3,(.ptr 1 0)),(4,(.val (.bool false))),(5,(.val (.int .i64 i)))], [(.row (.cells [(.lst false 27 n (ad 3 ts)),(.lst false 35 m (ad 6 ps))]) 25 .live),(.row (.cells [(.lst false 27 I (ad 3 G)),(.lst false 35 M (ad 6 O))]) 25 .live)]) else (bif ai IntKind.i64 (i+1) then some (.normal,ar 59 [(2,(.ptr 0 0)),(3,(.ptr 1 0)),(4,(.val (.bool r))),(5,(.val (.int .i64 (i+1))))], [(.row (.cells [(.lst false 27 n (ad 3 ts)),(.lst false 35 m (ad 6 ps))]) 25 .live),(.row (.cells [(.lst false 27 I (ad 3 G)),(.lst false 35 M (ad 6 O))]) 25 .live)]) else none)) else none) else none) else none) else none) else none) else some ((.exit 0),ar 59 [(2,(.ptr 0 0)),(3,(.ptr 1 0)),(4,(.val (.bool r))),(5,(.val (.int .i64 i)))], [(.row (.cells [(.lst false 27 n (ad 3 ts)),(.lst false 35 m (ad 6 ps))]) 25 .live),(.row (.cells [(.lst false 27 I (ad 3 G)),(.lst false 35 M (ad 6 O))]) 25 .live)]))):=by kernel_rfl
theorem Qo {r:Bool} {i:Int} {n:Nat} {ts:List Value} {m:Nat} {ps:List Value} {I:Nat} {M:List Value} {G:Nat} {J:List Value} {e:Ex} {T:List AV} {H:Hp} (h:aO Tryz.prog ⟨aK,au,aq⟩ 20 [2,3,4,5] (lb 20 fH) (false :: fH) (ir r i n ts m ps I M G J) (ia r i n ts m ps I M G J)=some (e,T,H)):V.Ends Tryz.prog false 0 0 (lb 20 fH) (ir r i n ts m ps I M G J) (ia r i n ts m ps I M G J) e T H:=
 bF (aJ _) aN mixed VK h
theorem aes {r:Bool} {n m:Nat} {ts ps:List Value} (i:Nat) (hi:i < n) (O:n≤9223372036854775807) (h:dB ts i=true):V.Ends Tryz.prog false 0 0 (lb 20 fH) (ir r i n ts m ps n ts m ps) (ia r i n ts m ps n ts m ps) .normal (ir r ((i+1:Nat):Int) n ts m ps n ts m ps) (ia r ((i+1:Nat):Int) n ts m ps n ts m ps):=by
 have G:=Pp r i n ts m ps n ts m ps
 obtain ⟨I,J,M⟩:=DP h
 simp only [Int.toNat_natCast] at G
 rw [dT (show (i:Int) < (n:Int) by omega),dT (show (0:Int)≤(i:Int) by omega),I,J,M,aM (z:=(i:Int)+1) (by omega)] at G
 simp only [beq_self_eq_true,lG,Bool.and_true,Bool.and_self,Bool.not_true,cond_true,cond_false] at G
 exact Qo G
theorem aer {r:Bool} {n m:Nat} {ts ps:List Value} (G:n≤9223372036854775807) (h:∀ j,j < n→dB ts j=true) (k:Nat):∀ i:Nat,n=i+k→av Tryz.prog (lb 20 fH) (ir r i n ts m ps n ts m ps) (ia r i n ts m ps n ts m ps) (.exit 0) (ir r n n ts m ps n ts m ps) (ia r n n ts m ps n ts m ps):=by
 induction k with
 | zero=>
  intro i hi
  have:i=n:=by omega
  subst this
  refine .last (Qo ?_) (by intro h;cases h)
  rw [Pp,dF (show ¬ ((i:Nat):Int) < (i:Int) by omega)]
  rfl
 | succ k I=>
  intro i hi
  exact .more (aes i (by omega) G (h i (by omega))) (I (i+1) (by omega))
def vR (r:Bool) (i:Int) (n:Nat) (ts:List Value) (m:Nat) (ps:List Value) (I:Nat) (M:List Value) (G:Nat) (J:List Value):Prop:=i=0∧I=n∧M=ts∧G=m∧J=ps∧n≤9223372036854775807∧∀ j,j < n→dB ts j=true
def E7 (r:Bool) (i:Int) (n:Nat) (ts:List Value) (m:Nat) (ps:List Value) (I:Nat) (M:List Value) (G:Nat) (J:List Value) (ρ:Int):Prop:=True
theorem aa7 (r:Bool) (i:Int) (n:Nat) (ts:List Value) (m:Nat) (ps:List Value) (I:Nat) (M:List Value) (G:Nat) (J:List Value) (h:vR r i n ts m ps I M G J):∃ ρ:Int,av Tryz.prog (lb 20 fH) (ir r i n ts m ps I M G J) (ia r i n ts m ps I M G J) (.exit 0) (ir r ρ n ts m ps I M G J) (ia r ρ n ts m ps I M G J)∧E7 r i n ts m ps I M G J ρ:=by
 obtain ⟨rfl,rfl,rfl,rfl,rfl,O,h⟩:=h
 exact ⟨_,aer O h _ 0 (Nat.zero_add _).symm,trivial⟩
def HP (ab:Bool→Int→Nat→List Value→Nat→List Value→Nat→List Value→Nat→List Value→Bool) (Z:Bool→Int→Nat→List Value→Nat→List Value→Nat→List Value→Nat→List Value→Int) (T:List AV) (H:Hp):Option (Bool×Ex×List AV×Hp):=
 match al T 2,al T 3,al T 4,al T 5,H with
 | .ptr 0 0, .ptr 1 0, .val (.bool r), .val (.int .i64 i), [.row (.cells [.lst false 27 n O, .lst false 35 m J]) 25 .live, .row (.cells [.lst false 27 I U, .lst false 35 G M]) 25 .live]=>bif T.length==59 then some (an 3 n O&&an 6 m J&&an 3 I U&&an 6 G M&&ab r i n (ag 3 n O) m (ag 6 m J) I (ag 3 I U) G (ag 6 G M), .exit 0,ir r ((Z r i n (ag 3 n O) m (ag 6 m J) I (ag 3 I U) G (ag 6 G M))) n (ag 3 n O) m (ag 6 m J) I (ag 3 I U) G (ag 6 G M),ia r ((Z r i n (ag 3 n O) m (ag 6 m J) I (ag 3 I U) G (ag 6 G M))) n (ag 3 n O) m (ag 6 m J) I (ag 3 I U) G (ag 6 G M)) else none
 | _,_,_,_,_=>none
abbrev JV:Type:=Bool→Int→Nat→List Value→Nat→List Value→Nat→List Value→Nat→List Value→Bool
abbrev Jo:Type:=Bool→Int→Nat→List Value→Nat→List Value→Nat→List Value→Nat→List Value→Int
def Cs (G:JV) (I:Jo) (L:aC):aC:=bp 0 20 fH [2,3,4,5] (HP G I) L
def si (r:Bool) (i:Int) (n:Nat) (ts:List Value) (m:Nat) (ps:List Value) (I:Nat) (M:List Value) (G:Nat) (J:List Value):Int:=Classical.epsilon fun ρ=>av Tryz.prog (lb 20 fH) (ir r i n ts m ps I M G J) (ia r i n ts m ps I M G J) (.exit 0) (ir r (ρ) n ts m ps I M G J) (ia r (ρ) n ts m ps I M G J)∧E7 r i n ts m ps I M G J ρ
theorem acv (r:Bool) (i:Int) (n:Nat) (ts:List Value) (m:Nat) (ps:List Value) (I:Nat) (M:List Value) (G:Nat) (J:List Value) (h:vR r i n ts m ps I M G J):av Tryz.prog (lb 20 fH) (ir r i n ts m ps I M G J) (ia r i n ts m ps I M G J) (.exit 0) (ir r ((si r i n ts m ps I M G J)) n ts m ps I M G J) (ia r ((si r i n ts m ps I M G J)) n ts m ps I M G J)∧E7 r i n ts m ps I M G J (si r i n ts m ps I M G J):=Classical.epsilon_spec (aa7 r i n ts m ps I M G J h)
def ye (r:Bool) (i:Int) (n:Nat) (ts:List Value) (m:Nat) (ps:List Value) (I:Nat) (M:List Value) (G:Nat) (J:List Value):Bool:= @decide (vR r i n ts m ps I M G J) (Classical.propDecidable _)
theorem WG (r:Bool) (i:Int) (n:Nat) (ts:List Value) (m:Nat) (ps:List Value) (I:Nat) (M:List Value) (G:Nat) (J:List Value) (h:vR r i n ts m ps I M G J):ye r i n ts m ps I M G J=true:= @decide_eq_true _ (Classical.propDecidable _) h
theorem agJ (T:List AV) (H:Hp) (e:Ex) (M:List AV) (J:Hp) (h:HP ye si T H=some (true,e,M,J)):V.Ends Tryz.prog false 0 0 (.loop (lb 20 fH)) T H e M J:=by
 unfold HP at h
 split at h
 ·rename_i r i n a6 m aE ab a7 Z a1 bx bD b0 b1
  rw [Bool.cond_eq_ite] at h
  split at h
  ·rename_i O
   rw [beq_iff_eq] at O
   simp only [Option.some.injEq,Prod.mk.injEq,Bool.and_eq_true,decide_eq_true_eq] at h
   obtain ⟨⟨⟨⟨⟨k1,b3⟩,b4⟩,b5⟩,b6⟩,rfl,rfl,rfl⟩:=h
   have b7:= @of_decide_eq_true _ (Classical.propDecidable _) b6
   refine Ends.pre (Ends.gJ (acv r i n (ag 3 n a6) m (ag 6 m aE) ab (ag 3 ab a7) Z (ag 6 Z a1) b7).1.ends (bC.cons ⟨⟨rfl,fun _ _ _ _ _ I=>mo (by kernel_rfl) (by kernel_rfl) k1 b3 I⟩,rfl,rfl⟩ (bC.cons ⟨⟨rfl,fun _ _ _ _ _ I=>mo (by kernel_rfl) (by kernel_rfl) b4 b5 I⟩,rfl,rfl⟩ bC.nil))) (fun α B w D ch b2=>bq O (fun p U y G=> ?_) b2)
   simp only [List.mem_cons,List.not_mem_nil,or_false] at U
   rcases U with rfl | rfl | rfl | rfl
   ·rw [bx] at G;exact G
   ·rw [bD] at G;exact G
   ·rw [b0] at G;exact G
   ·rw [b1] at G;exact G
  ·cases h
 ·cases h
theorem SG {L:aC} (h:aB Tryz.prog L):aB Tryz.prog (Cs ye si L):=h.bz T9 agJ
abbrev fI:List Bool:= [false,true,false,true,true,true]
def iu (r:Bool) (i:Int) (n:Nat) (ts:List Value) (m:Nat) (ps:List Value) (I:Nat) (M:List Value) (G:Nat) (J:List Value):List AV:=ar 59 [(2, .ptr 0 0),(3, .ptr 1 0),(4, .val (.bool r)),(6, .val (.int .i64 i))]
def ib (r:Bool) (i:Int) (n:Nat) (ts:List Value) (m:Nat) (ps:List Value) (I:Nat) (M:List Value) (G:Nat) (J:List Value):Hp:= [.row (.cells [.lst false 27 n (ad 3 ts), .lst false 35 m (ad 6 ps)]) 25 .live, .row (.cells [.lst false 27 I (ad 3 M), .lst false 35 G (ad 6 J)]) 25 .live]
theorem Ua:aH Tryz.prog 20 fI=some (.loop (lb 20 fI)):=by kernel_rfl
theorem VL:aH Tryz.prog 20 (false :: fI)=some (lb 20 fI):=by kernel_rfl
theorem Pq (r:Bool) (i:Int) (n:Nat) (ts:List Value) (m:Nat) (ps:List Value) (O:Nat) (U:List Value) (I:Nat) (G:List Value):letI Z:=(i.toNat*6+1);letI ab:=(i.toNat*6+2);letI a6:=(aG (ah (ps.getD Z undef)) (ah (G.getD Z undef))&&(aG (ah (ps.getD ab undef)) (ah (G.getD ab undef))&&true));letI aE:=(i.toNat*6+4);letI a1:=(i.toNat*6+5);letI a7:=(aG (ah (ps.getD aE undef)) (ah (G.getD aE undef))&&(aG (ah (ps.getD a1 undef)) (ah (G.getD a1 undef))&&true));letI J:=(i.toNat*6+0);letI M:=(i.toNat*6+3);
  (aO Tryz.prog ⟨aK,au,aq⟩ 20 [2,3,4,6] (lb 20 fI) (false :: fI) (iu r i n ts m ps O U I G) (ib r i n ts m ps O U I G)=(bif decide (i < (↑m:Int)) then (bif decide (0≤i)&&decide (i < (↑m:Int)) then (bif decide (0≤i)&&decide (i < (↑I:Int)) then (bif b8 (ps.getD J undef)&&b8 (G.getD J undef) then (bif bb (ps.getD Z undef)&&bb (G.getD Z undef) then (bif bb (ps.getD ab undef)&&bb (G.getD ab undef) then (bif b8 (ps.getD M undef)&&b8 (G.getD M undef) then (bif bb (ps.getD aE undef)&&bb (G.getD aE undef) then (bif bb (ps.getD a1 undef)&&bb (G.getD a1 undef) then (bif bif true then !(az (ps.getD J undef)==az (G.getD J undef)&&a6&&(az (ps.getD M undef)==az (G.getD M undef)&&a7&&true)) else az (ps.getD J undef)==az (G.getD J undef)&&a6&&(az (ps.getD M undef)==az (G.getD M undef)&&a7&&true) then some (.ret,ar 59 [(2,(.ptr 0 0)),(3,(.ptr 1 0)),(4,(.val (.bool false))),(6,(.val (.int .i64 i)))], [(.row (.cells [(.lst false 27 n (ad 3 ts)),(.lst false 35 m (ad 6 ps))]) 25 .live),(.row (.cells [(.lst false 27 O (ad 3 U)),(.lst false 35 I (ad 6 G))]) 25 .live)]) else (bif ai IntKind.i64 (i+1) then some (.normal,ar 59 [(2,(.ptr 0 0)),(3,(.ptr 1 0)),(4,(.val (.bool r))),(6,(.val (.int .i64 (i+1))))], [(.row (.cells [(.lst false 27 n (ad 3 ts)),(.lst false 35 m (ad 6 ps))]) 25 .live),(.row (.cells [(.lst false 27 O (ad 3 U)),(.lst false 35 I (ad 6 G))]) 25 .live)]) else none)) else none) else none) else none) else none) else none) else none) else none) else none) else some ((.exit 2),ar 59 [(2,(.ptr 0 0)),(3,(.ptr 1 0)),(4,(.val (.bool r))),(6,(.val (.int .i64 i)))], [(.row (.cells [(.lst false 27 n (ad 3 ts)),(.lst false 35 m (ad 6 ps))]) 25 .live),(.row (.cells [(.lst false 27 O (ad 3 U)),(.lst false 35 I (ad 6 G))]) 25 .live)]))):=by kernel_rfl
theorem Qp {r:Bool} {i:Int} {n:Nat} {ts:List Value} {m:Nat} {ps:List Value} {I:Nat} {M:List Value} {G:Nat} {J:List Value} {e:Ex} {T:List AV} {H:Hp} (h:aO Tryz.prog ⟨aK,au,aq⟩ 20 [2,3,4,6] (lb 20 fI) (false :: fI) (iu r i n ts m ps I M G J) (ib r i n ts m ps I M G J)=some (e,T,H)):V.Ends Tryz.prog false 0 0 (lb 20 fI) (iu r i n ts m ps I M G J) (ib r i n ts m ps I M G J) e T H:=
 bF (aJ _) aN mixed VL h
theorem aeu {r:Bool} {n m:Nat} {ts ps:List Value} (i:Nat) (hi:i < m) (a1:m≤9223372036854775807) (h:di ps i=true):V.Ends Tryz.prog false 0 0 (lb 20 fI) (iu r i n ts m ps n ts m ps) (ib r i n ts m ps n ts m ps) .normal (iu r ((i+1:Nat):Int) n ts m ps n ts m ps) (ib r ((i+1:Nat):Int) n ts m ps n ts m ps):=by
 have G:=Pq r i n ts m ps n ts m ps
 obtain ⟨ab,aE⟩:=uS h
 obtain ⟨I,J,M⟩:=DP ab
 obtain ⟨O,U,Z⟩:=DP aE
 simp only [Int.toNat_natCast] at G
 rw [dT (show (i:Int) < (m:Int) by omega),dT (show (0:Int)≤(i:Int) by omega),I,J,M,O,U,Z,aM (z:=(i:Int)+1) (by omega)] at G
 simp only [beq_self_eq_true,lG,Bool.and_true,Bool.and_self,Bool.not_true,cond_true,cond_false] at G
 exact Qp G
theorem aet {r:Bool} {n m:Nat} {ts ps:List Value} (G:m≤9223372036854775807) (h:∀ j,j < m→di ps j=true) (k:Nat):∀ i:Nat,m=i+k→av Tryz.prog (lb 20 fI) (iu r i n ts m ps n ts m ps) (ib r i n ts m ps n ts m ps) (.exit 2) (iu r m n ts m ps n ts m ps) (ib r m n ts m ps n ts m ps):=by
 induction k with
 | zero=>
  intro i hi
  have:i=m:=by omega
  subst this
  refine .last (Qp ?_) (by intro h;cases h)
  rw [Pq,dF (show ¬ ((i:Nat):Int) < (i:Int) by omega)]
  rfl
 | succ k I=>
  intro i hi
  exact .more (aeu i (by omega) G (h i (by omega))) (I (i+1) (by omega))
def vT (r:Bool) (i:Int) (n:Nat) (ts:List Value) (m:Nat) (ps:List Value) (I:Nat) (M:List Value) (G:Nat) (J:List Value):Prop:=i=0∧I=n∧M=ts∧G=m∧J=ps∧m≤9223372036854775807∧∀ j,j < m→di ps j=true
def E8 (r:Bool) (i:Int) (n:Nat) (ts:List Value) (m:Nat) (ps:List Value) (I:Nat) (M:List Value) (G:Nat) (J:List Value) (ρ:Int):Prop:=True
theorem aa8 (r:Bool) (i:Int) (n:Nat) (ts:List Value) (m:Nat) (ps:List Value) (I:Nat) (M:List Value) (G:Nat) (J:List Value) (h:vT r i n ts m ps I M G J):∃ ρ:Int,av Tryz.prog (lb 20 fI) (iu r i n ts m ps I M G J) (ib r i n ts m ps I M G J) (.exit 2) (iu r ρ n ts m ps I M G J) (ib r ρ n ts m ps I M G J)∧E8 r i n ts m ps I M G J ρ:=by
 obtain ⟨rfl,rfl,rfl,rfl,rfl,O,h⟩:=h
 exact ⟨_,aet O h _ 0 (Nat.zero_add _).symm,trivial⟩
def HQ (ab:Bool→Int→Nat→List Value→Nat→List Value→Nat→List Value→Nat→List Value→Bool) (Z:Bool→Int→Nat→List Value→Nat→List Value→Nat→List Value→Nat→List Value→Int) (T:List AV) (H:Hp):Option (Bool×Ex×List AV×Hp):=
 match al T 2,al T 3,al T 4,al T 6,H with
 | .ptr 0 0, .ptr 1 0, .val (.bool r), .val (.int .i64 i), [.row (.cells [.lst false 27 n O, .lst false 35 m J]) 25 .live, .row (.cells [.lst false 27 I U, .lst false 35 G M]) 25 .live]=>bif T.length==59 then some (an 3 n O&&an 6 m J&&an 3 I U&&an 6 G M&&ab r i n (ag 3 n O) m (ag 6 m J) I (ag 3 I U) G (ag 6 G M), .exit 2,iu r ((Z r i n (ag 3 n O) m (ag 6 m J) I (ag 3 I U) G (ag 6 G M))) n (ag 3 n O) m (ag 6 m J) I (ag 3 I U) G (ag 6 G M),ib r ((Z r i n (ag 3 n O) m (ag 6 m J) I (ag 3 I U) G (ag 6 G M))) n (ag 3 n O) m (ag 6 m J) I (ag 3 I U) G (ag 6 G M)) else none
 | _,_,_,_,_=>none
abbrev JW:Type:=Bool→Int→Nat→List Value→Nat→List Value→Nat→List Value→Nat→List Value→Bool
abbrev Jp:Type:=Bool→Int→Nat→List Value→Nat→List Value→Nat→List Value→Nat→List Value→Int
def Ct (G:JW) (I:Jp) (L:aC):aC:=bp 0 20 fI [2,3,4,6] (HQ G I) L
def sj (r:Bool) (i:Int) (n:Nat) (ts:List Value) (m:Nat) (ps:List Value) (I:Nat) (M:List Value) (G:Nat) (J:List Value):Int:=Classical.epsilon fun ρ=>av Tryz.prog (lb 20 fI) (iu r i n ts m ps I M G J) (ib r i n ts m ps I M G J) (.exit 2) (iu r (ρ) n ts m ps I M G J) (ib r (ρ) n ts m ps I M G J)∧E8 r i n ts m ps I M G J ρ
theorem acw (r:Bool) (i:Int) (n:Nat) (ts:List Value) (m:Nat) (ps:List Value) (I:Nat) (M:List Value) (G:Nat) (J:List Value) (h:vT r i n ts m ps I M G J):av Tryz.prog (lb 20 fI) (iu r i n ts m ps I M G J) (ib r i n ts m ps I M G J) (.exit 2) (iu r ((sj r i n ts m ps I M G J)) n ts m ps I M G J) (ib r ((sj r i n ts m ps I M G J)) n ts m ps I M G J)∧E8 r i n ts m ps I M G J (sj r i n ts m ps I M G J):=Classical.epsilon_spec (aa8 r i n ts m ps I M G J h)
def yg (r:Bool) (i:Int) (n:Nat) (ts:List Value) (m:Nat) (ps:List Value) (I:Nat) (M:List Value) (G:Nat) (J:List Value):Bool:= @decide (vT r i n ts m ps I M G J) (Classical.propDecidable _)
theorem WH (r:Bool) (i:Int) (n:Nat) (ts:List Value) (m:Nat) (ps:List Value) (I:Nat) (M:List Value) (G:Nat) (J:List Value) (h:vT r i n ts m ps I M G J):yg r i n ts m ps I M G J=true:= @decide_eq_true _ (Classical.propDecidable _) h
theorem agK (T:List AV) (H:Hp) (e:Ex) (M:List AV) (J:Hp) (h:HQ yg sj T H=some (true,e,M,J)):V.Ends Tryz.prog false 0 0 (.loop (lb 20 fI)) T H e M J:=by
 unfold HQ at h
 split at h
 ·rename_i r i n a6 m aE ab a7 Z a1 bx bD b0 b1
  rw [Bool.cond_eq_ite] at h
  split at h
  ·rename_i O
   rw [beq_iff_eq] at O
   simp only [Option.some.injEq,Prod.mk.injEq,Bool.and_eq_true,decide_eq_true_eq] at h
   obtain ⟨⟨⟨⟨⟨k1,b3⟩,b4⟩,b5⟩,b6⟩,rfl,rfl,rfl⟩:=h
   have b7:= @of_decide_eq_true _ (Classical.propDecidable _) b6
   refine Ends.pre (Ends.gJ (acw r i n (ag 3 n a6) m (ag 6 m aE) ab (ag 3 ab a7) Z (ag 6 Z a1) b7).1.ends (bC.cons ⟨⟨rfl,fun _ _ _ _ _ I=>mo (by kernel_rfl) (by kernel_rfl) k1 b3 I⟩,rfl,rfl⟩ (bC.cons ⟨⟨rfl,fun _ _ _ _ _ I=>mo (by kernel_rfl) (by kernel_rfl) b4 b5 I⟩,rfl,rfl⟩ bC.nil))) (fun α B w D ch b2=>bq O (fun p U y G=> ?_) b2)
   simp only [List.mem_cons,List.not_mem_nil,or_false] at U
   rcases U with rfl | rfl | rfl | rfl
   ·rw [bx] at G;exact G
   ·rw [bD] at G;exact G
   ·rw [b0] at G;exact G
   ·rw [b1] at G;exact G
  ·cases h
 ·cases h
theorem SH {L:aC} (h:aB Tryz.prog L):aB Tryz.prog (Ct yg sj L):=h.bz Ua agK
theorem aew (G:JV) (J:Jo) (I:JW) (M:Jp) (n m:Nat) (ts ps:List Value):aF Tryz.prog ⟨aK,au,Cs G J (Ct I M aq)⟩ 10 10 20 [.agg [.lst false 27 n (ad 3 ts), .lst false 35 m (ad 6 ps)], .agg [.lst false 27 n (ad 3 ts), .lst false 35 m (ad 6 ps)]]=
  (bif !decide ((↑n:Int)=(↑n:Int)) then some (.val (.bool false)) else (bif !decide ((↑m:Int)=(↑m:Int)) then some (.val (.bool false)) else (bif an 3 n (ad 3 ts)&&an 6 m (ad 6 ps)&&an 3 n (ad 3 ts)&&an 6 m (ad 6 ps)&&G false (0:Int) n (ag 3 n (ad 3 ts)) m (ag 6 m (ad 6 ps)) n (ag 3 n (ad 3 ts)) m (ag 6 m (ad 6 ps)) then (bif an 3 n (ad 3 (ag 3 n (ad 3 ts)))&&an 6 m (ad 6 (ag 6 m (ad 6 ps)))&&an 3 n (ad 3 (ag 3 n (ad 3 ts)))&&an 6 m (ad 6 (ag 6 m (ad 6 ps)))&&I false (0:Int) n (ag 3 n (ad 3 (ag 3 n (ad 3 ts)))) m (ag 6 m (ad 6 (ag 6 m (ad 6 ps)))) n (ag 3 n (ad 3 (ag 3 n (ad 3 ts)))) m (ag 6 m (ad 6 (ag 6 m (ad 6 ps)))) then some (.val (.bool true)) else none) else none))):=by kernel_rfl
theorem aex:aF Tryz.prog ⟨aK,au,aq⟩ 10 10 20 [.agg [.val (.slice none 0 0), .val (.slice none 0 0)], .agg [.val (.slice none 0 0), .val (.slice none 0 0)]]=some (.val (.bool true)):=by kernel_rfl
def ef (n:Nat) (ts:List Value):Bool:=decide (n≤9223372036854775807)&&(List.range n).all (dB ts)
theorem Ei {n:Nat} {ts:List Value} (h:ef n ts=true):n≤9223372036854775807∧∀ j,j < n→dB ts j=true:=by
 unfold ef at h
 rw [Bool.and_eq_true,decide_eq_true_eq] at h
 exact ⟨h.1,fun j G=>xq h.2 G⟩
structure Sm where
 sm:Nat→List Value→Nat→List Value→Nat→List Value→Nat→List Value→Bool
def smN (n:Nat) (ts:List Value) (m:Nat) (ps:List Value) (I:Nat) (M:List Value) (G:Nat) (J:List Value):Bool:= @decide (I=n∧M=ts∧G=m∧J=ps∧ef n ts=true∧dp m ps=true) (Classical.propDecidable _)
def sG:Sm:= ⟨smN⟩
theorem aeO {n m:Nat} {ts ps:List Value} (G:ef n ts=true) (I:dp m ps=true):sG.sm n ts m ps n ts m ps=true:= @decide_eq_true _ (Classical.propDecidable _) ⟨rfl,rfl,rfl,rfl,G,I⟩
def GV (O:Sm):TF:=fun args=>match args with
 | [.agg [.lst _ 27 n f, .lst _ 35 m g], .agg [.lst _ 27 I J, .lst _ 35 G M]]=>
  some (an 3 n f&&an 6 m g&&(an 3 I J&&an 6 G M&&O.sm n (ag 3 n f) m (ag 6 m g) I (ag 3 I J) G (ag 6 G M)), .val (.bool true))
 | _=>none
def Az:TF:=fun args=>match args with
 | [.agg [.val (.slice none 0 0), .val (.slice none 0 0)], .agg [.val (.slice none 0 0), .val (.slice none 0 0)]]=>some (true, .val (.bool true))
 | _=>none
theorem LH:Entry Tryz.prog 20 Az:=bg (aJ _) aN mixed (by kernel_rfl) (fun args r h=>by
 unfold Az at h
 split at h
 ·cases h;exact aex
 ·cases h)
theorem Yo:Entry Tryz.prog 20 (GV sG):=by
 refine gV (by kernel_rfl) (fun args r h=> ?_)
 unfold GV at h
 split at h
 ·rename_i fl n f U m g Z I J ab G M
  simp only [Option.some.injEq,Prod.mk.injEq,Bool.and_eq_true] at h
  obtain ⟨⟨⟨aE,a1⟩, ⟨a6,a7⟩,bx⟩,rfl⟩:=h
  obtain ⟨rfl,q1,rfl,q2,k1,bD⟩:= @of_decide_eq_true _ (Classical.propDecidable _) bx
  have O:bc [.agg [.lst fl 27 I f, .lst U 35 G g], .agg [.lst Z 27 I J, .lst ab 35 G M]] [.agg [.lst false 27 I (ad 3 (ag 3 I f)), .lst false 35 G (ad 6 (ag 6 G g))], .agg [.lst false 27 I (ad 3 (ag 3 I J)), .lst false 35 G (ad 6 (ag 6 G M))]]:=
   bc.cons (bE.agg (bc.cons (bE.row (by kernel_rfl) aE) (bc.cons (bE.row (by kernel_rfl) a1) (bc.refl _)))) (bc.cons (bE.agg (bc.cons (bE.row (by kernel_rfl) a6) (bc.cons (bE.row (by kernel_rfl) a7) (bc.refl _)))) (bc.refl _))
  rw [q1,q2] at O
  have l1:=bI 3 I f
  have l2:=bI 6 G g
  generalize ag 3 I f=ts at*
  generalize ag 6 G g=ps at*
  obtain ⟨b0,b1⟩:=Ei k1
  obtain ⟨b2,b3⟩:=zi (show kX.ly G ps=true from bD)
  refine ⟨⟨aK,au,Cs ye si (Ct yg sj aq)⟩,10,10,_,_,aJ _,(SG (SH aB.none)).ok, ?_,O,bE.refl _⟩
  have p1:vR false 0 I ts G ps I ts G ps:= ⟨rfl,rfl,rfl,rfl,rfl,b0,b1⟩
  have p2:vT false 0 I ts G ps I ts G ps:= ⟨rfl,rfl,rfl,rfl,rfl,b2,b3⟩
  rw [aew,dT (show (I:Int)=I from rfl),dT (show (G:Int)=G from rfl)]
  simp only [aZ l1,aZ l2,bV,WG _ _ _ _ _ _ _ _ _ _ p1,WH _ _ _ _ _ _ _ _ _ _ p2,Bool.and_self,cond_true,Bool.not_true,cond_false]
 ·cases h
end
end Go.Proofs.YtamcpiicmfielaaGreat.L
namespace Go.Proofs.YtamcpiicmfielaaGreat.L
open Go Go.V Go.RowKit Go.Proofs.YtamcpiicmfielaaGreat.Sp
open Go.Proofs (Tryz.prog)
noncomputable section
def ID (K:Hg) (G:Qg):Env:= ⟨aw 49 (gR (sR G)) (aw 57 (gP (sT K)) (aw 23 (cZ (qK G)) aK)),au,aq⟩
def II (K:Hg) (G:Qg):Env:= ⟨aw 51 (gR (nM G fun b n d=> .val (.int .i64 (G.ck b n d)))) (aw 58 (gP (sT K)) (aw 48 (cZ (oU G)) aK)),au,aq⟩
def c9 (n d:BA):Bool:=decide (n.size≤1000)&&decide (d.size≤1000)
theorem uT {n d:BA} (h:c9 n d=true):n.size≤1000∧d.size≤1000:=by
 unfold c9 at h
 rwa [Bool.and_eq_true,decide_eq_true_eq,decide_eq_true_eq] at h
theorem fD {n d:BA} (h:c9 n d=true):af.ok n d=true:=OO (by have:=uT h;omega) (by have:=uT h;omega)
theorem ff {n d:BA} (h:c9 n d=true):af.aV n d=true:=OP (by have:=uT h;omega) (by have:=uT h;omega)
def c8 (ts:List Value) (j:Nat):Bool:=dB ts j&&c9 (ah (ts.getD (j*3+1) undef)) (ah (ts.getD (j*3+2) undef))
theorem df {ts:List Value} {j:Nat} (h:c8 ts j=true):aY (ts.getD (j*3+0) undef) (ts.getD (j*3+1) undef) (ts.getD (j*3+2) undef)=true∧c9 (ah (ts.getD (j*3+1) undef)) (ah (ts.getD (j*3+2) undef))=true:=by
 unfold c8 at h
 rwa [Bool.and_eq_true] at h
def jF (ts:List Value) (j:Nat):Bool:= !decide (af.ck (az (ts.getD (j*3+0) undef)) (ah (ts.getD (j*3+1) undef)) (ah (ts.getD (j*3+2) undef))=0)
def qt (ts:List Value) (j:Nat):Rat:=af.qv (az (ts.getD (j*3+0) undef)) (ah (ts.getD (j*3+1) undef)) (ah (ts.getD (j*3+2) undef))
def bJ (ts ps:List Value) (j:Nat):Int:=if jF ts j=true∨po ps j=true then 1 else if 0 < j∧0≤af.cq (qt ts (j - 1)) (qt ts j) then 8 else 0
def dL (ts ps:List Value):Nat→Int
 | 0=>0
 | n+1=>if dL ts ps n=0 then bJ ts ps n else dL ts ps n
def aS (n:Nat) (ts:List Value) (m:Nat) (ps:List Value):Int:=if ¬ n=m then 9 else if n=0 then 11 else if 1000 < n then 4 else dL ts ps n
theorem xL {ts ps:List Value} {n:Nat} (h:∀ j,j < n→bJ ts ps j=0):dL ts ps n=0:=by
 induction n with
 | zero=>rfl
 | succ n G=>
  unfold dL
  rw [if_pos (G fun j I=>h j (by omega))]
  exact h n (by omega)
theorem KY {ts ps:List Value} {k:Nat} (h:∀ j,j < k→bJ ts ps j=0) (G:¬ bJ ts ps k=0) (d:Nat):dL ts ps (k+1+d)=bJ ts ps k:=by
 induction d with
 | zero=>
  show dL ts ps (k+1)=_
  unfold dL
  rw [if_pos (xL h)]
 | succ d I=>
  show dL ts ps (k+1+d+1)=_
  unfold dL
  rw [I,if_neg G]
theorem CU {ts ps:List Value} {n:Nat} (h:dL ts ps n=0):∀ j,j < n→bJ ts ps j=0:=by
 induction n with
 | zero=>intro j I;omega
 | succ n M=>
  unfold dL at h
  by_cases G:dL ts ps n=0
  ·rw [if_pos G] at h
   intro j I
   by_cases J:j=n
   ·subst J;exact h
   ·exact M G j (by omega)
  ·rw [if_neg G] at h
   exact absurd h G
theorem Ek {ts:List Value} {j:Nat} (h:dB ts j=true): [ad 3 ts j 0,ad 3 ts j 1,ad 3 ts j 2].all bB=true:=by
 obtain ⟨G,I,J⟩:=j6 h
 unfold ad
 rw [G,I,J];rfl
theorem rj {ts ps:List Value} {j:Nat} (h:bJ ts ps j=0):af.ck (az (ts.getD (j*3+0) undef)) (ah (ts.getD (j*3+1) undef)) (ah (ts.getD (j*3+2) undef))=0∧mV ps j=0∧(0 < j→¬ 0≤af.cq (qt ts (j - 1)) (qt ts j)):=by
 unfold bJ at h
 split at h
 ·cases h
 ·rename_i I
  split at h
  ·cases h
  ·rename_i J
   refine ⟨Classical.not_not.1 fun G=>I (.inl ?_),Classical.not_not.1 fun G=>I (.inr ?_),fun G M=>J ⟨G,M⟩⟩
   ·unfold jF;rw [decide_eq_false G];rfl
   ·unfold po;rw [decide_eq_false G];rfl
theorem KX {ts ps:List Value} {j:Nat} (h:¬ bJ ts ps j=0):(¬ af.ck (az (ts.getD (j*3+0) undef)) (ah (ts.getD (j*3+1) undef)) (ah (ts.getD (j*3+2) undef))=0∧bJ ts ps j=1)∨
  (af.ck (az (ts.getD (j*3+0) undef)) (ah (ts.getD (j*3+1) undef)) (ah (ts.getD (j*3+2) undef))=0∧¬ mV ps j=0∧bJ ts ps j=1)∨
  (af.ck (az (ts.getD (j*3+0) undef)) (ah (ts.getD (j*3+1) undef)) (ah (ts.getD (j*3+2) undef))=0∧mV ps j=0∧0 < j∧0≤af.cq (qt ts (j - 1)) (qt ts j)∧bJ ts ps j=8):=by
 by_cases G:af.ck (az (ts.getD (j*3+0) undef)) (ah (ts.getD (j*3+1) undef)) (ah (ts.getD (j*3+2) undef))=0
 ·by_cases I:mV ps j=0
  ·have M:¬ (jF ts j=true∨po ps j=true):=by
    unfold jF po
    rw [decide_eq_true G,decide_eq_true I]
    exact fun h=>h.elim (fun h=>by cases h) (fun h=>by cases h)
   by_cases J:0 < j∧0≤af.cq (qt ts (j - 1)) (qt ts j)
   ·exact .inr (.inr ⟨G,I,J.1,J.2,by unfold bJ;rw [if_neg M,if_pos J]⟩)
   ·exact absurd (by unfold bJ;rw [if_neg M,if_neg J]) h
  ·exact .inr (.inl ⟨G,I,by unfold bJ;rw [if_pos (.inr (by unfold po;rw [decide_eq_false I];rfl))]⟩)
 ·exact .inl ⟨G,by unfold bJ;rw [if_pos (.inl (by unfold jF;rw [decide_eq_false G];rfl))]⟩
abbrev eE:List Bool:= [false,true,false,true,true]
def eS (er:Int) (G:Nat) (J:List Value) (I i:Int) (n:Nat) (ts:List Value) (m:Nat) (ps:List Value):List AV:=ar 57 [(1, .ptr 0 0),(2, .val (.int .i64 er)),(24, .lst false 27 G (ad 3 J)),(25, .val (.int .i64 I)),(26, .val (.int .i64 i))]
def ee (er:Int) (G:Nat) (J:List Value) (I i:Int) (n:Nat) (ts:List Value) (m:Nat) (ps:List Value):Hp:= [.row (.cells [.lst false 27 n (ad 3 ts), .lst false 35 m (ad 6 ps)]) 25 .live]
theorem TA:aH Tryz.prog 18 eE=some (.loop (lb 18 eE)):=by kernel_rfl
theorem Vh:aH Tryz.prog 18 (false :: eE)=some (lb 18 eE):=by kernel_rfl
theorem Fy (K:Hg) (I:Qg) (er:Int) (J:Nat) (G:List Value) (M i:Int) (n:Nat) (ts:List Value) (m:Nat) (ps:List Value):letI bD:Option (Ex×List AV×Hp):=(bif ai IntKind.i64 (i+1) then some (.normal,ar 57 [(1,(.ptr 0 0)),(2,(.val (.int .i64 er))),(24,(.lst false 27 J (ad 3 G))),(25,(.val (.int .i64 M))),(26,(.val (.int .i64 (i+1))))], [(.row (.cells [(.lst false 27 n (ad 3 ts)),(.lst false 35 m (ad 6 ps))]) 25 .live)]) else none);letI O:=(G.getD (i.toNat*3+1) undef);letI U:=(G.getD (i.toNat*3+2) undef);letI Z:=(G.getD (i.toNat*3+0) undef);letI aE:=(ts.getD ((i - 1).toNat*3+1) undef);letI a1:=(ts.getD ((i - 1).toNat*3+2) undef);letI a6:=(ps.getD (i.toNat*6+1) undef);letI a7:=(ps.getD (i.toNat*6+2) undef);letI bx:=(ps.getD (i.toNat*6+4) undef);letI ab:=(ps.getD (i.toNat*6+5) undef);
  (aO Tryz.prog (ID K I) 18 [1,2,24,25,26] (lb 18 eE) (false :: eE) (eS er J G M i n ts m ps) (ee er J G M i n ts m ps)=(bif decide (i < M) then (bif decide (0≤i)&&decide (i < (↑J:Int)) then (bif [(fun q=>ad 3 G i.toNat (0+q)) (nat_lit 0),(fun q=>ad 3 G i.toNat (0+q)) (nat_lit 1),(fun q=>ad 3 G i.toNat (0+q)) (nat_lit 2)].all bB then (bif aY Z O U&&I.ok (ah O) (ah U) then (bif !decide (I.ck (az Z) (ah O) (ah U)=0) then some (.ret,ar 57 [(1,(.ptr 0 0)),(2,(.val (.int .i64 1))),(24,(.lst false 27 J (ad 3 G))),(25,(.val (.int .i64 M))),(26,(.val (.int .i64 i)))], [(.row (.cells [(.lst false 27 n (ad 3 ts)),(.lst false 35 m (ad 6 ps))]) 25 .live)]) else (bif decide (0≤i)&&decide (i < (↑m:Int)) then (bif aY (ps.getD (i.toNat*6+0) undef) a6 a7&&aY (ps.getD (i.toNat*6+3) undef) bx ab&&(K.ok (ah a6) (ah a7)&&K.ok (ah bx) (ah ab)) then (bif !decide (K.kv (az (ps.getD (i.toNat*6+0) undef)) (ah a6) (ah a7) (az (ps.getD (i.toNat*6+3) undef)) (ah bx) (ah ab)=0) then some (.ret,ar 57 [(1,(.ptr 0 0)),(2,(.val (.int .i64 1))),(24,(.lst false 27 J (ad 3 G))),(25,(.val (.int .i64 M))),(26,(.val (.int .i64 i)))], [(.row (.cells [(.lst false 27 n (ad 3 ts)),(.lst false 35 m (ad 6 ps))]) 25 .live)]) else (bif decide (0 < i) then (bif ai IntKind.i64 (i - 1) then (bif decide (0≤i - 1)&&decide (i - 1 < (↑n:Int)) then (bif aY (ts.getD ((i - 1).toNat*3+0) undef) aE a1&&aY Z O U&&(I.ok (ah aE) (ah a1)&&I.ok (ah O) (ah U)) then (bif decide (0≤I.cq (I.qv (az (ts.getD ((i - 1).toNat*3+0) undef)) (ah aE) (ah a1)) (I.qv (az Z) (ah O) (ah U))) then some (.ret,ar 57 [(1,(.ptr 0 0)),(2,(.val (.int .i64 8))),(24,(.lst false 27 J (ad 3 G))),(25,(.val (.int .i64 M))),(26,(.val (.int .i64 i)))], [(.row (.cells [(.lst false 27 n (ad 3 ts)),(.lst false 35 m (ad 6 ps))]) 25 .live)]) else bD) else none) else none) else none) else bD)) else none) else none)) else none) else none) else none) else some ((.exit 1),ar 57 [(1,(.ptr 0 0)),(2,(.val (.int .i64 er))),(24,(.lst false 27 J (ad 3 G))),(25,(.val (.int .i64 M))),(26,(.val (.int .i64 i)))], [(.row (.cells [(.lst false 27 n (ad 3 ts)),(.lst false 35 m (ad 6 ps))]) 25 .live)]))):=by kernel_rfl
theorem sJ {er:Int} {G:Nat} {J:List Value} {I i:Int} {n:Nat} {ts:List Value} {m:Nat} {ps:List Value} {e:Ex} {T:List AV} {H:Hp} (h:aO Tryz.prog (ID bR af) 18 [1,2,24,25,26] (lb 18 eE) (false :: eE) (eS er G J I i n ts m ps) (ee er G J I i n ts m ps)=some (e,T,H)):V.Ends Tryz.prog false 0 0 (lb 18 eE) (eS er G J I i n ts m ps) (ee er G J I i n ts m ps) e T H:=
 bF ((((aJ _).add pC.cZ).add Yt.gP).add Da.gR) aN mixed Vh h
section
variable {n : Nat} {ts ps : List Value} {er : Int}
theorem ML (i:Nat) (hi:i < n) (b3:n≤1000) (J:∀ j,j < n→c8 ts j=true) (b2:∀ j,j < n→dd ps j=true) (h:bJ ts ps i=0):V.Ends Tryz.prog false 0 0 (lb 18 eE) (eS er n ts (n:Int) i n ts n ps) (ee er n ts (n:Int) i n ts n ps) .normal (eS er n ts (n:Int) ((i+1:Nat):Int) n ts n ps) (ee er n ts (n:Int) ((i+1:Nat):Int) n ts n ps):=by
 obtain ⟨a6,a7,bx⟩:=rj h
 obtain ⟨I,M⟩:=df (J i hi)
 obtain ⟨⟨O,U⟩,Z,ab⟩:=nb (b2 i hi)
 have G:=Fy bR af er n ts (n:Int) i n ts n ps
 simp only [Int.toNat_natCast,Nat.zero_add] at G
 rw [dT (show (i:Int) < (n:Int) by omega),dT (show (0:Int)≤(i:Int) by omega),Ek (show dB ts i=true from I),I,fD M] at G
 rw [dT a6,O,U,Z,ab,dT (show bR.kv (az (ps.getD (i*6+0) undef)) (ah (ps.getD (i*6+1) undef)) (ah (ps.getD (i*6+2) undef)) (az (ps.getD (i*6+3) undef)) (ah (ps.getD (i*6+4) undef)) (ah (ps.getD (i*6+5) undef))=0 from a7)] at G
 by_cases b1:i=0
 ·subst b1
  exact sJ G
 ·have bD:=bx (by omega)
  obtain ⟨j,rfl⟩:∃ j,i=j+1:= ⟨i - 1,by omega⟩
  obtain ⟨aE,a1⟩:=df (J j (by omega))
  have e1:((j+1:Nat):Int) - 1=(j:Int):=by omega
  simp only [e1,Int.toNat_natCast] at G
  rw [dT (show (0:Int) < ((j+1:Nat):Int) by omega),aM (z:=(j:Int)) (by omega),dT (show (0:Int)≤(j:Int) by omega),dT (show (j:Int) < (n:Int) by omega),aE,fD a1,aM (z:=((j+1:Nat):Int)+1) (by omega)] at G
  have b0:¬ 0≤af.cq (af.qv (az (ts.getD (j*3+0) undef)) (ah (ts.getD (j*3+1) undef)) (ah (ts.getD (j*3+2) undef))) (af.qv (az (ts.getD ((j+1)*3+0) undef)) (ah (ts.getD ((j+1)*3+1) undef)) (ah (ts.getD ((j+1)*3+2) undef))):=bD
  rw [dF b0] at G
  exact sJ G
theorem ZB (i:Nat) (hi:i < n) (b3:n≤1000) (a1:∀ j,j < n→c8 ts j=true) (b1:∀ j,j < n→dd ps j=true) (h:¬ bJ ts ps i=0):V.Ends Tryz.prog false 0 0 (lb 18 eE) (eS er n ts (n:Int) i n ts n ps) (ee er n ts (n:Int) i n ts n ps) .ret (eS (bJ ts ps i) n ts (n:Int) i n ts n ps) (ee (bJ ts ps i) n ts (n:Int) i n ts n ps):=by
 obtain ⟨O,a6⟩:=df (a1 i hi)
 obtain ⟨⟨U,Z⟩,ab,aE⟩:=nb (b1 i hi)
 have G:=Fy bR af er n ts (n:Int) i n ts n ps
 simp only [Int.toNat_natCast,Nat.zero_add] at G
 rw [dT (show (i:Int) < (n:Int) by omega),dT (show (0:Int)≤(i:Int) by omega),Ek (show dB ts i=true from O),O,fD a6] at G
 rcases KX h with ⟨I,M⟩ | ⟨I,J,M⟩ | ⟨I,J,b2,bD,M⟩ <;> rw [M]
 ·rw [dF I] at G
  exact sJ G
 ·rw [dT I,U,Z,ab,aE,dF (show ¬ bR.kv (az (ps.getD (i*6+0) undef)) (ah (ps.getD (i*6+1) undef)) (ah (ps.getD (i*6+2) undef)) (az (ps.getD (i*6+3) undef)) (ah (ps.getD (i*6+4) undef)) (ah (ps.getD (i*6+5) undef))=0 from J)] at G
  exact sJ G
 ·rw [dT I,U,Z,ab,aE,dT (show bR.kv (az (ps.getD (i*6+0) undef)) (ah (ps.getD (i*6+1) undef)) (ah (ps.getD (i*6+2) undef)) (az (ps.getD (i*6+3) undef)) (ah (ps.getD (i*6+4) undef)) (ah (ps.getD (i*6+5) undef))=0 from J)] at G
  obtain ⟨j,rfl⟩:∃ j,i=j+1:= ⟨i - 1,by omega⟩
  obtain ⟨a7,bx⟩:=df (a1 j (by omega))
  have e1:((j+1:Nat):Int) - 1=(j:Int):=by omega
  simp only [e1,Int.toNat_natCast] at G
  rw [dT (show (0:Int) < ((j+1:Nat):Int) by omega),aM (z:=(j:Int)) (by omega),dT (show (0:Int)≤(j:Int) by omega),dT (show (j:Int) < (n:Int) by omega),a7,fD bx] at G
  have b0:0≤af.cq (af.qv (az (ts.getD (j*3+0) undef)) (ah (ts.getD (j*3+1) undef)) (ah (ts.getD (j*3+2) undef))) (af.qv (az (ts.getD ((j+1)*3+0) undef)) (ah (ts.getD ((j+1)*3+1) undef)) (ah (ts.getD ((j+1)*3+2) undef))):=bD
  rw [dT b0] at G
  exact sJ G
theorem ZA (G:n≤1000) (J:∀ j,j < n→c8 ts j=true) (I:∀ j,j < n→dd ps j=true) (h:∀ j,j < n→bJ ts ps j=0) (k:Nat):∀ i:Nat,n=i+k→av Tryz.prog (lb 18 eE) (eS er n ts (n:Int) i n ts n ps) (ee er n ts (n:Int) i n ts n ps) (.exit 1) (eS er n ts (n:Int) n n ts n ps) (ee er n ts (n:Int) n n ts n ps):=by
 induction k with
 | zero=>
  intro i hi
  have:i=n:=by omega
  subst this
  refine .last (sJ ?_) (by intro h;cases h)
  rw [Fy,dF (show ¬ ((i:Nat):Int) < (i:Int) by omega)]
  rfl
 | succ k M=>
  intro i hi
  exact .more (ML i (by omega) G J I (h i (by omega))) (M (i+1) (by omega))
theorem ZE (G:n≤1000) (J:∀ j,j < n→c8 ts j=true) (I:∀ j,j < n→dd ps j=true) (q:Nat) (O:q < n) (h:∀ j,j < q→bJ ts ps j=0) (M:¬ bJ ts ps q=0) (k:Nat):∀ i:Nat,q=i+k→av Tryz.prog (lb 18 eE) (eS er n ts (n:Int) i n ts n ps) (ee er n ts (n:Int) i n ts n ps) .ret (eS (bJ ts ps q) n ts (n:Int) q n ts n ps) (ee (bJ ts ps q) n ts (n:Int) q n ts n ps):=by
 induction k with
 | zero=>
  intro i hi
  have:i=q:=by omega
  subst this
  exact .last (ZB i O G J I M) (by intro h;cases h)
 | succ k U=>
  intro i hi
  exact .more (ML i (by omega) G J I (h i (by omega))) (U (i+1) (by omega))
end
def vn (er:Int) (G:Nat) (J:List Value) (I i:Int) (n:Nat) (ts:List Value) (m:Nat) (ps:List Value):Prop:=n=G∧ts=J∧I=(n:Int)∧n=m∧i=0∧n≤1000∧(∀ j,j < n→c8 ts j=true)∧(∀ j,j < n→dd ps j=true)∧∀ j,j < n→bJ ts ps j=0
def EI (er:Int) (G:Nat) (J:List Value) (I i:Int) (n:Nat) (ts:List Value) (m:Nat) (ps:List Value) (ρ:Int):Prop:=True
theorem aaF (er:Int) (G:Nat) (J:List Value) (I i:Int) (n:Nat) (ts:List Value) (m:Nat) (ps:List Value) (h:vn er G J I i n ts m ps):∃ ρ:Int,av Tryz.prog (lb 18 eE) (eS er G J I i n ts m ps) (ee er G J I i n ts m ps) (.exit 1) (eS er G J I ρ n ts m ps) (ee er G J I ρ n ts m ps)∧EI er G J I i n ts m ps ρ:=by
 obtain ⟨rfl,rfl,rfl,rfl,rfl,M,U,O,h⟩:=h
 exact ⟨_,ZA M U O h _ 0 (Nat.zero_add _).symm,trivial⟩
def Hj (Z:Int→Nat→List Value→Int→Int→Nat→List Value→Nat→List Value→Bool) (U:Int→Nat→List Value→Int→Int→Nat→List Value→Nat→List Value→Int) (T:List AV) (H:Hp):Option (Bool×Ex×List AV×Hp):=
 match al T 1,al T 2,al T 24,al T 25,al T 26,H with
 | .ptr 0 0, .val (.int .i64 er), .lst false 27 G M, .val (.int .i64 O), .val (.int .i64 i), [.row (.cells [.lst false 27 n J, .lst false 35 m I]) 25 .live]=>bif T.length==57 then some (an 3 G M&&an 3 n J&&an 6 m I&&Z er G (ag 3 G M) O i n (ag 3 n J) m (ag 6 m I), .exit 1,eS er G (ag 3 G M) O ((U er G (ag 3 G M) O i n (ag 3 n J) m (ag 6 m I))) n (ag 3 n J) m (ag 6 m I),ee er G (ag 3 G M) O ((U er G (ag 3 G M) O i n (ag 3 n J) m (ag 6 m I))) n (ag 3 n J) m (ag 6 m I)) else none
 | _,_,_,_,_,_=>none
abbrev JH:Type:=Int→Nat→List Value→Int→Int→Nat→List Value→Nat→List Value→Bool
abbrev I8:Type:=Int→Nat→List Value→Int→Int→Nat→List Value→Nat→List Value→Int
def Cf (G:JH) (I:I8) (L:aC):aC:=bp 0 18 eE [1,2,24,25,26] (Hj G I) L
def sa (er:Int) (G:Nat) (J:List Value) (I i:Int) (n:Nat) (ts:List Value) (m:Nat) (ps:List Value):Int:=Classical.epsilon fun ρ=>av Tryz.prog (lb 18 eE) (eS er G J I i n ts m ps) (ee er G J I i n ts m ps) (.exit 1) (eS er G J I (ρ) n ts m ps) (ee er G J I (ρ) n ts m ps)∧EI er G J I i n ts m ps ρ
theorem acp (er:Int) (G:Nat) (J:List Value) (I i:Int) (n:Nat) (ts:List Value) (m:Nat) (ps:List Value) (h:vn er G J I i n ts m ps):av Tryz.prog (lb 18 eE) (eS er G J I i n ts m ps) (ee er G J I i n ts m ps) (.exit 1) (eS er G J I ((sa er G J I i n ts m ps)) n ts m ps) (ee er G J I ((sa er G J I i n ts m ps)) n ts m ps)∧EI er G J I i n ts m ps (sa er G J I i n ts m ps):=Classical.epsilon_spec (aaF er G J I i n ts m ps h)
def xZ (er:Int) (G:Nat) (J:List Value) (I i:Int) (n:Nat) (ts:List Value) (m:Nat) (ps:List Value):Bool:= @decide (vn er G J I i n ts m ps) (Classical.propDecidable _)
theorem We (er:Int) (G:Nat) (J:List Value) (I i:Int) (n:Nat) (ts:List Value) (m:Nat) (ps:List Value) (h:vn er G J I i n ts m ps):xZ er G J I i n ts m ps=true:= @decide_eq_true _ (Classical.propDecidable _) h
theorem agh (T:List AV) (H:Hp) (e:Ex) (J:List AV) (I:Hp) (h:Hj xZ sa T H=some (true,e,J,I)):V.Ends Tryz.prog false 0 0 (.loop (lb 18 eE)) T H e J I:=by
 unfold Hj at h
 split at h
 ·rename_i er U aE b6 i n ab m Z a1 a6 a7 bx bD
  rw [Bool.cond_eq_ite] at h
  split at h
  ·rename_i M
   rw [beq_iff_eq] at M
   simp only [Option.some.injEq,Prod.mk.injEq,Bool.and_eq_true,decide_eq_true_eq] at h
   obtain ⟨⟨⟨⟨k1,b2⟩,b3⟩,b4⟩,rfl,rfl,rfl⟩:=h
   have b5:= @of_decide_eq_true _ (Classical.propDecidable _) b4
   refine Ends.pre (Ends.gJ (acp er U (ag 3 U aE) b6 i n (ag 3 n ab) m (ag 6 m Z) b5).1.ends (bC.cons ⟨⟨rfl,fun _ _ _ _ _ b0=>mo (by kernel_rfl) (by kernel_rfl) b2 b3 b0⟩,rfl,rfl⟩ bC.nil)) (fun α B w D b7 b1=>bq M (fun p O y G=> ?_) b1)
   simp only [List.mem_cons,List.not_mem_nil,or_false] at O
   rcases O with rfl | rfl | rfl | rfl | rfl
   ·rw [a1] at G;exact G
   ·rw [a6] at G;exact G
   ·rw [a7] at G;exact lE (by kernel_rfl) k1 G
   ·rw [bx] at G;exact G
   ·rw [bD] at G;exact G
  ·cases h
 ·cases h
theorem Sc {L:aC} (h:aB Tryz.prog L):aB Tryz.prog (Cf xZ sa L):=h.bz TA agh
abbrev qi:List Bool:= [false,true,false,true,true]
def qC (er:Int) (G:Nat) (J:List Value) (I i:Int) (n:Nat) (ts:List Value) (m:Nat) (ps:List Value):List AV:=ar 57 [(1, .ptr 0 0),(2, .val (.int .i64 er)),(24, .lst false 27 G (ad 3 J)),(25, .val (.int .i64 I)),(26, .val (.int .i64 i))]
def pK (er:Int) (G:Nat) (J:List Value) (I i:Int) (n:Nat) (ts:List Value) (m:Nat) (ps:List Value):Hp:= [.row (.cells [.lst false 27 n (ad 3 ts), .lst false 35 m (ad 6 ps)]) 25 .live]
theorem TB:aH Tryz.prog 18 qi=some (.loop (lb 18 qi)):=by kernel_rfl
def vo (er:Int) (G:Nat) (J:List Value) (I i:Int) (n:Nat) (ts:List Value) (m:Nat) (ps:List Value):Prop:=n=G∧ts=J∧I=(n:Int)∧n=m∧i=0∧n≤1000∧(∀ j,j < n→c8 ts j=true)∧(∀ j,j < n→dd ps j=true)∧∃ q,q < n∧(∀ j,j < q→bJ ts ps j=0)∧¬ bJ ts ps q=0
def EJ (er:Int) (G:Nat) (J:List Value) (I i:Int) (n:Nat) (ts:List Value) (m:Nat) (ps:List Value) (ρ:Int×Int):Prop:=ρ.1=dL ts ps n
theorem aaG (er:Int) (G:Nat) (J:List Value) (I i:Int) (n:Nat) (ts:List Value) (m:Nat) (ps:List Value) (h:vo er G J I i n ts m ps):∃ ρ:Int×Int,av Tryz.prog (lb 18 qi) (qC er G J I i n ts m ps) (pK er G J I i n ts m ps) .ret (qC ρ.1 G J I ρ.2 n ts m ps) (pK ρ.1 G J I ρ.2 n ts m ps)∧EJ er G J I i n ts m ps ρ:=by
 obtain ⟨rfl,rfl,rfl,rfl,rfl,O,ab,U,q,Z,h,M⟩:=h
 have e:=KY h M (n - (q+1))
 rw [show q+1+(n - (q+1))=n by omega] at e
 exact ⟨(bJ ts ps q,(q:Int)),ZE O ab U q Z h M q 0 (by omega),e.symm⟩
def Hk (Z:Int→Nat→List Value→Int→Int→Nat→List Value→Nat→List Value→Bool) (U:Int→Nat→List Value→Int→Int→Nat→List Value→Nat→List Value→Int×Int) (T:List AV) (H:Hp):Option (Bool×Ex×List AV×Hp):=
 match al T 1,al T 2,al T 24,al T 25,al T 26,H with
 | .ptr 0 0, .val (.int .i64 er), .lst false 27 G M, .val (.int .i64 O), .val (.int .i64 i), [.row (.cells [.lst false 27 n J, .lst false 35 m I]) 25 .live]=>bif T.length==57 then some (an 3 G M&&an 3 n J&&an 6 m I&&Z er G (ag 3 G M) O i n (ag 3 n J) m (ag 6 m I), .ret,qC ((U er G (ag 3 G M) O i n (ag 3 n J) m (ag 6 m I)).1) G (ag 3 G M) O ((U er G (ag 3 G M) O i n (ag 3 n J) m (ag 6 m I)).2) n (ag 3 n J) m (ag 6 m I),pK ((U er G (ag 3 G M) O i n (ag 3 n J) m (ag 6 m I)).1) G (ag 3 G M) O ((U er G (ag 3 G M) O i n (ag 3 n J) m (ag 6 m I)).2) n (ag 3 n J) m (ag 6 m I)) else none
 | _,_,_,_,_,_=>none
abbrev JI:Type:=Int→Nat→List Value→Int→Int→Nat→List Value→Nat→List Value→Bool
abbrev I9:Type:=Int→Nat→List Value→Int→Int→Nat→List Value→Nat→List Value→Int×Int
def Ch (G:JI) (I:I9) (L:aC):aC:=bp 0 18 qi [1,2,24,25,26] (Hk G I) L
def nq (er:Int) (G:Nat) (J:List Value) (I i:Int) (n:Nat) (ts:List Value) (m:Nat) (ps:List Value):Int×Int:=Classical.epsilon fun ρ=>av Tryz.prog (lb 18 qi) (qC er G J I i n ts m ps) (pK er G J I i n ts m ps) (.ret) (qC (ρ.1) G J I (ρ.2) n ts m ps) (pK (ρ.1) G J I (ρ.2) n ts m ps)∧EJ er G J I i n ts m ps ρ
theorem Od (er:Int) (G:Nat) (J:List Value) (I i:Int) (n:Nat) (ts:List Value) (m:Nat) (ps:List Value) (h:vo er G J I i n ts m ps):av Tryz.prog (lb 18 qi) (qC er G J I i n ts m ps) (pK er G J I i n ts m ps) (.ret) (qC ((nq er G J I i n ts m ps).1) G J I ((nq er G J I i n ts m ps).2) n ts m ps) (pK ((nq er G J I i n ts m ps).1) G J I ((nq er G J I i n ts m ps).2) n ts m ps)∧EJ er G J I i n ts m ps (nq er G J I i n ts m ps):=Classical.epsilon_spec (aaG er G J I i n ts m ps h)
def x7 (er:Int) (G:Nat) (J:List Value) (I i:Int) (n:Nat) (ts:List Value) (m:Nat) (ps:List Value):Bool:= @decide (vo er G J I i n ts m ps) (Classical.propDecidable _)
theorem Wf (er:Int) (G:Nat) (J:List Value) (I i:Int) (n:Nat) (ts:List Value) (m:Nat) (ps:List Value) (h:vo er G J I i n ts m ps):x7 er G J I i n ts m ps=true:= @decide_eq_true _ (Classical.propDecidable _) h
theorem agi (T:List AV) (H:Hp) (e:Ex) (J:List AV) (I:Hp) (h:Hk x7 nq T H=some (true,e,J,I)):V.Ends Tryz.prog false 0 0 (.loop (lb 18 qi)) T H e J I:=by
 unfold Hk at h
 split at h
 ·rename_i er U aE b6 i n ab m Z a1 a6 a7 bx bD
  rw [Bool.cond_eq_ite] at h
  split at h
  ·rename_i M
   rw [beq_iff_eq] at M
   simp only [Option.some.injEq,Prod.mk.injEq,Bool.and_eq_true,decide_eq_true_eq] at h
   obtain ⟨⟨⟨⟨k1,b2⟩,b3⟩,b4⟩,rfl,rfl,rfl⟩:=h
   have b5:= @of_decide_eq_true _ (Classical.propDecidable _) b4
   refine Ends.pre (Ends.gJ (Od er U (ag 3 U aE) b6 i n (ag 3 n ab) m (ag 6 m Z) b5).1.ends (bC.cons ⟨⟨rfl,fun _ _ _ _ _ b0=>mo (by kernel_rfl) (by kernel_rfl) b2 b3 b0⟩,rfl,rfl⟩ bC.nil)) (fun α B w D b7 b1=>bq M (fun p O y G=> ?_) b1)
   simp only [List.mem_cons,List.not_mem_nil,or_false] at O
   rcases O with rfl | rfl | rfl | rfl | rfl
   ·rw [a1] at G;exact G
   ·rw [a6] at G;exact G
   ·rw [a7] at G;exact lE (by kernel_rfl) k1 G
   ·rw [bx] at G;exact G
   ·rw [bD] at G;exact G
  ·cases h
 ·cases h
theorem Sd {L:aC} (h:aB Tryz.prog L):aB Tryz.prog (Ch x7 nq L):=h.bz TB agi
abbrev eD:List Bool:= [false,true,false,true,true,true,true]
def eQ (er i:Int) (n:Nat) (ts:List Value) (m:Nat) (ps:List Value):List AV:=ar 59 [(1, .ptr 0 0),(2, .val (.int .i64 er)),(3, .val (.int .i64 i))]
def dZ (er i:Int) (n:Nat) (ts:List Value) (m:Nat) (ps:List Value):Hp:= [.row (.cells [.lst false 27 n (ad 3 ts), .lst false 35 m (ad 6 ps)]) 25 .live]
theorem Ty:aH Tryz.prog 19 eD=some (.loop (lb 19 eD)):=by kernel_rfl
theorem Vf:aH Tryz.prog 19 (false :: eD)=some (lb 19 eD):=by kernel_rfl
theorem Fx (K:Hg) (G:Qg) (er i:Int) (n:Nat) (ts:List Value) (m:Nat) (ps:List Value):letI a6:Option (Ex×List AV×Hp):=(bif ai IntKind.i64 (i+1) then some (.normal,ar 59 [(1,(.ptr 0 0)),(2,(.val (.int .i64 er))),(3,(.val (.int .i64 (i+1))))], [(.row (.cells [(.lst false 27 n (ad 3 ts)),(.lst false 35 m (ad 6 ps))]) 25 .live)]) else none);letI I:=(ts.getD (i.toNat*3+1) undef);letI J:=(ts.getD (i.toNat*3+2) undef);letI M:=(ts.getD (i.toNat*3+0) undef);letI U:=(ts.getD ((i - 1).toNat*3+1) undef);letI Z:=(ts.getD ((i - 1).toNat*3+2) undef);letI ab:=(ps.getD (i.toNat*6+1) undef);letI aE:=(ps.getD (i.toNat*6+2) undef);letI a1:=(ps.getD (i.toNat*6+4) undef);letI O:=(ps.getD (i.toNat*6+5) undef);
  (aO Tryz.prog (II K G) 19 [1,2,3] (lb 19 eD) (false :: eD) (eQ er i n ts m ps) (dZ er i n ts m ps)=(bif decide (i < (↑n:Int)) then (bif decide (0≤i)&&decide (i < (↑n:Int)) then (bif aY M I J&&G.aV (ah I) (ah J) then (bif !decide (G.ck (az M) (ah I) (ah J)=0) then some (.ret,ar 59 [(1,(.ptr 0 0)),(2,(.val (.int .i64 1))),(3,(.val (.int .i64 i)))], [(.row (.cells [(.lst false 27 n (ad 3 ts)),(.lst false 35 m (ad 6 ps))]) 25 .live)]) else (bif decide (0≤i)&&decide (i < (↑m:Int)) then (bif aY (ps.getD (i.toNat*6+0) undef) ab aE&&aY (ps.getD (i.toNat*6+3) undef) a1 O&&(K.ok (ah ab) (ah aE)&&K.ok (ah a1) (ah O)) then (bif !decide (K.kv (az (ps.getD (i.toNat*6+0) undef)) (ah ab) (ah aE) (az (ps.getD (i.toNat*6+3) undef)) (ah a1) (ah O)=0) then some (.ret,ar 59 [(1,(.ptr 0 0)),(2,(.val (.int .i64 1))),(3,(.val (.int .i64 i)))], [(.row (.cells [(.lst false 27 n (ad 3 ts)),(.lst false 35 m (ad 6 ps))]) 25 .live)]) else (bif decide (0 < i) then (bif ai IntKind.i64 (i - 1) then (bif decide (0≤i - 1)&&decide (i - 1 < (↑n:Int)) then (bif decide (0≤i)&&decide (i < (↑n:Int)) then (bif aY (ts.getD ((i - 1).toNat*3+0) undef) U Z&&aY M I J&&(G.aV (ah U) (ah Z)&&G.aV (ah I) (ah J)) then (bif decide (0≤G.cq (G.qv (az (ts.getD ((i - 1).toNat*3+0) undef)) (ah U) (ah Z)) (G.qv (az M) (ah I) (ah J))) then some (.ret,ar 59 [(1,(.ptr 0 0)),(2,(.val (.int .i64 8))),(3,(.val (.int .i64 i)))], [(.row (.cells [(.lst false 27 n (ad 3 ts)),(.lst false 35 m (ad 6 ps))]) 25 .live)]) else a6) else none) else none) else none) else none) else a6)) else none) else none)) else none) else none) else some ((.exit 0),ar 59 [(1,(.ptr 0 0)),(2,(.val (.int .i64 er))),(3,(.val (.int .i64 i)))], [(.row (.cells [(.lst false 27 n (ad 3 ts)),(.lst false 35 m (ad 6 ps))]) 25 .live)]))):=by kernel_rfl
theorem sI {er i:Int} {n:Nat} {ts:List Value} {m:Nat} {ps:List Value} {e:Ex} {T:List AV} {H:Hp} (h:aO Tryz.prog (II bR af) 19 [1,2,3] (lb 19 eD) (false :: eD) (eQ er i n ts m ps) (dZ er i n ts m ps)=some (e,T,H)):V.Ends Tryz.prog false 0 0 (lb 19 eD) (eQ er i n ts m ps) (dZ er i n ts m ps) e T H:=
 bF ((((aJ _).add ru.cZ).add Yl.gP).add LB.gR) aN mixed Vf h
section
variable {n : Nat} {ts ps : List Value} {er : Int}
theorem ME (i:Nat) (hi:i < n) (b3:n≤1000) (I:∀ j,j < n→c8 ts j=true) (b2:∀ j,j < n→dd ps j=true) (h:bJ ts ps i=0):V.Ends Tryz.prog false 0 0 (lb 19 eD) (eQ er i n ts n ps) (dZ er i n ts n ps) .normal (eQ er ((i+1:Nat):Int) n ts n ps) (dZ er ((i+1:Nat):Int) n ts n ps):=by
 obtain ⟨a6,a7,bx⟩:=rj h
 obtain ⟨J,M⟩:=df (I i hi)
 obtain ⟨⟨O,U⟩,Z,ab⟩:=nb (b2 i hi)
 have G:=Fx bR af er i n ts n ps
 simp only [Int.toNat_natCast,Nat.zero_add] at G
 rw [dT (show (i:Int) < (n:Int) by omega),dT (show (0:Int)≤(i:Int) by omega),J,ff M] at G
 rw [dT a6,O,U,Z,ab,dT (show bR.kv (az (ps.getD (i*6+0) undef)) (ah (ps.getD (i*6+1) undef)) (ah (ps.getD (i*6+2) undef)) (az (ps.getD (i*6+3) undef)) (ah (ps.getD (i*6+4) undef)) (ah (ps.getD (i*6+5) undef))=0 from a7)] at G
 by_cases b1:i=0
 ·subst b1
  exact sI G
 ·have bD:=bx (by omega)
  obtain ⟨j,rfl⟩:∃ j,i=j+1:= ⟨i - 1,by omega⟩
  obtain ⟨aE,a1⟩:=df (I j (by omega))
  have e1:((j+1:Nat):Int) - 1=(j:Int):=by omega
  simp only [e1,Int.toNat_natCast] at G
  rw [dT (show (0:Int) < ((j+1:Nat):Int) by omega),aM (z:=(j:Int)) (by omega),dT (show (0:Int)≤(j:Int) by omega),dT (show (j:Int) < (n:Int) by omega),aE,ff a1,aM (z:=((j+1:Nat):Int)+1) (by omega)] at G
  have b0:¬ 0≤af.cq (af.qv (az (ts.getD (j*3+0) undef)) (ah (ts.getD (j*3+1) undef)) (ah (ts.getD (j*3+2) undef))) (af.qv (az (ts.getD ((j+1)*3+0) undef)) (ah (ts.getD ((j+1)*3+1) undef)) (ah (ts.getD ((j+1)*3+2) undef))):=bD
  rw [dF b0] at G
  exact sI G
theorem Zq (i:Nat) (hi:i < n) (b3:n≤1000) (aE:∀ j,j < n→c8 ts j=true) (b1:∀ j,j < n→dd ps j=true) (h:¬ bJ ts ps i=0):V.Ends Tryz.prog false 0 0 (lb 19 eD) (eQ er i n ts n ps) (dZ er i n ts n ps) .ret (eQ (bJ ts ps i) i n ts n ps) (dZ (bJ ts ps i) i n ts n ps):=by
 obtain ⟨a1,a6⟩:=df (aE i hi)
 obtain ⟨⟨O,U⟩,Z,ab⟩:=nb (b1 i hi)
 have G:=Fx bR af er i n ts n ps
 simp only [Int.toNat_natCast,Nat.zero_add] at G
 rw [dT (show (i:Int) < (n:Int) by omega),dT (show (0:Int)≤(i:Int) by omega),a1,ff a6] at G
 rcases KX h with ⟨I,M⟩ | ⟨I,J,M⟩ | ⟨I,J,b2,bD,M⟩ <;> rw [M]
 ·rw [dF I] at G
  exact sI G
 ·rw [dT I,O,U,Z,ab,dF (show ¬ bR.kv (az (ps.getD (i*6+0) undef)) (ah (ps.getD (i*6+1) undef)) (ah (ps.getD (i*6+2) undef)) (az (ps.getD (i*6+3) undef)) (ah (ps.getD (i*6+4) undef)) (ah (ps.getD (i*6+5) undef))=0 from J)] at G
  exact sI G
 ·rw [dT I,O,U,Z,ab,dT (show bR.kv (az (ps.getD (i*6+0) undef)) (ah (ps.getD (i*6+1) undef)) (ah (ps.getD (i*6+2) undef)) (az (ps.getD (i*6+3) undef)) (ah (ps.getD (i*6+4) undef)) (ah (ps.getD (i*6+5) undef))=0 from J)] at G
  obtain ⟨j,rfl⟩:∃ j,i=j+1:= ⟨i - 1,by omega⟩
  obtain ⟨a7,bx⟩:=df (aE j (by omega))
  have e1:((j+1:Nat):Int) - 1=(j:Int):=by omega
  simp only [e1,Int.toNat_natCast] at G
  rw [dT (show (0:Int) < ((j+1:Nat):Int) by omega),aM (z:=(j:Int)) (by omega),dT (show (0:Int)≤(j:Int) by omega),dT (show (j:Int) < (n:Int) by omega),a7,ff bx] at G
  have b0:0≤af.cq (af.qv (az (ts.getD (j*3+0) undef)) (ah (ts.getD (j*3+1) undef)) (ah (ts.getD (j*3+2) undef))) (af.qv (az (ts.getD ((j+1)*3+0) undef)) (ah (ts.getD ((j+1)*3+1) undef)) (ah (ts.getD ((j+1)*3+2) undef))):=bD
  rw [dT b0] at G
  exact sI G
theorem Zp (G:n≤1000) (J:∀ j,j < n→c8 ts j=true) (I:∀ j,j < n→dd ps j=true) (h:∀ j,j < n→bJ ts ps j=0) (k:Nat):∀ i:Nat,n=i+k→av Tryz.prog (lb 19 eD) (eQ er i n ts n ps) (dZ er i n ts n ps) (.exit 0) (eQ er n n ts n ps) (dZ er n n ts n ps):=by
 induction k with
 | zero=>
  intro i hi
  have:i=n:=by omega
  subst this
  refine .last (sI ?_) (by intro h;cases h)
  rw [Fx,dF (show ¬ ((i:Nat):Int) < (i:Int) by omega)]
  rfl
 | succ k M=>
  intro i hi
  exact .more (ME i (by omega) G J I (h i (by omega))) (M (i+1) (by omega))
theorem Zy (G:n≤1000) (J:∀ j,j < n→c8 ts j=true) (I:∀ j,j < n→dd ps j=true) (q:Nat) (O:q < n) (h:∀ j,j < q→bJ ts ps j=0) (M:¬ bJ ts ps q=0) (k:Nat):∀ i:Nat,q=i+k→av Tryz.prog (lb 19 eD) (eQ er i n ts n ps) (dZ er i n ts n ps) .ret (eQ (bJ ts ps q) q n ts n ps) (dZ (bJ ts ps q) q n ts n ps):=by
 induction k with
 | zero=>
  intro i hi
  have:i=q:=by omega
  subst this
  exact .last (Zq i O G J I M) (by intro h;cases h)
 | succ k U=>
  intro i hi
  exact .more (ME i (by omega) G J I (h i (by omega))) (U (i+1) (by omega))
end
def vi (er i:Int) (n:Nat) (ts:List Value) (m:Nat) (ps:List Value):Prop:=n=m∧i=0∧n≤1000∧(∀ j,j < n→c8 ts j=true)∧(∀ j,j < n→dd ps j=true)∧∀ j,j < n→bJ ts ps j=0
def EG (er i:Int) (n:Nat) (ts:List Value) (m:Nat) (ps:List Value) (ρ:Int):Prop:=True
theorem aaD (er i:Int) (n:Nat) (ts:List Value) (m:Nat) (ps:List Value) (h:vi er i n ts m ps):∃ ρ:Int,av Tryz.prog (lb 19 eD) (eQ er i n ts m ps) (dZ er i n ts m ps) (.exit 0) (eQ er ρ n ts m ps) (dZ er ρ n ts m ps)∧EG er i n ts m ps ρ:=by
 obtain ⟨rfl,rfl,G,J,I,h⟩:=h
 exact ⟨_,Zp G J I h _ 0 (Nat.zero_add _).symm,trivial⟩
def Hh (M:Int→Int→Nat→List Value→Nat→List Value→Bool) (J:Int→Int→Nat→List Value→Nat→List Value→Int) (T:List AV) (H:Hp):Option (Bool×Ex×List AV×Hp):=
 match al T 1,al T 2,al T 3,H with
 | .ptr 0 0, .val (.int .i64 er), .val (.int .i64 i), [.row (.cells [.lst false 27 n I, .lst false 35 m G]) 25 .live]=>bif T.length==59 then some (an 3 n I&&an 6 m G&&M er i n (ag 3 n I) m (ag 6 m G), .exit 0,eQ er ((J er i n (ag 3 n I) m (ag 6 m G))) n (ag 3 n I) m (ag 6 m G),dZ er ((J er i n (ag 3 n I) m (ag 6 m G))) n (ag 3 n I) m (ag 6 m G)) else none
 | _,_,_,_=>none
abbrev JF:Type:=Int→Int→Nat→List Value→Nat→List Value→Bool
abbrev I6:Type:=Int→Int→Nat→List Value→Nat→List Value→Int
def Cd (G:JF) (I:I6) (L:aC):aC:=bp 0 19 eD [1,2,3] (Hh G I) L
def r9 (er i:Int) (n:Nat) (ts:List Value) (m:Nat) (ps:List Value):Int:=Classical.epsilon fun ρ=>av Tryz.prog (lb 19 eD) (eQ er i n ts m ps) (dZ er i n ts m ps) (.exit 0) (eQ er (ρ) n ts m ps) (dZ er (ρ) n ts m ps)∧EG er i n ts m ps ρ
theorem aco (er i:Int) (n:Nat) (ts:List Value) (m:Nat) (ps:List Value) (h:vi er i n ts m ps):av Tryz.prog (lb 19 eD) (eQ er i n ts m ps) (dZ er i n ts m ps) (.exit 0) (eQ er ((r9 er i n ts m ps)) n ts m ps) (dZ er ((r9 er i n ts m ps)) n ts m ps)∧EG er i n ts m ps (r9 er i n ts m ps):=Classical.epsilon_spec (aaD er i n ts m ps h)
def xX (er i:Int) (n:Nat) (ts:List Value) (m:Nat) (ps:List Value):Bool:= @decide (vi er i n ts m ps) (Classical.propDecidable _)
theorem Wc (er i:Int) (n:Nat) (ts:List Value) (m:Nat) (ps:List Value) (h:vi er i n ts m ps):xX er i n ts m ps=true:= @decide_eq_true _ (Classical.propDecidable _) h
theorem age (T:List AV) (H:Hp) (e:Ex) (J:List AV) (I:Hp) (h:Hh xX r9 T H=some (true,e,J,I)):V.Ends Tryz.prog false 0 0 (.loop (lb 19 eD)) T H e J I:=by
 unfold Hh at h
 split at h
 ·rename_i er i n Z m U ab aE a1
  rw [Bool.cond_eq_ite] at h
  split at h
  ·rename_i M
   rw [beq_iff_eq] at M
   simp only [Option.some.injEq,Prod.mk.injEq,Bool.and_eq_true,decide_eq_true_eq] at h
   obtain ⟨⟨⟨k1,bx⟩,bD⟩,rfl,rfl,rfl⟩:=h
   have b0:= @of_decide_eq_true _ (Classical.propDecidable _) bD
   refine Ends.pre (Ends.gJ (aco er i n (ag 3 n Z) m (ag 6 m U) b0).1.ends (bC.cons ⟨⟨rfl,fun _ _ _ _ _ a6=>mo (by kernel_rfl) (by kernel_rfl) k1 bx a6⟩,rfl,rfl⟩ bC.nil)) (fun α B w D b1 a7=>bq M (fun p O y G=> ?_) a7)
   simp only [List.mem_cons,List.not_mem_nil,or_false] at O
   rcases O with rfl | rfl | rfl
   ·rw [ab] at G;exact G
   ·rw [aE] at G;exact G
   ·rw [a1] at G;exact G
  ·cases h
 ·cases h
theorem Sa {L:aC} (h:aB Tryz.prog L):aB Tryz.prog (Cd xX r9 L):=h.bz Ty age
abbrev qh:List Bool:= [false,true,false,true,true,true,true]
def qB (er i:Int) (n:Nat) (ts:List Value) (m:Nat) (ps:List Value):List AV:=ar 59 [(1, .ptr 0 0),(2, .val (.int .i64 er)),(3, .val (.int .i64 i))]
def pJ (er i:Int) (n:Nat) (ts:List Value) (m:Nat) (ps:List Value):Hp:= [.row (.cells [.lst false 27 n (ad 3 ts), .lst false 35 m (ad 6 ps)]) 25 .live]
theorem Tz:aH Tryz.prog 19 qh=some (.loop (lb 19 qh)):=by kernel_rfl
def vk (er i:Int) (n:Nat) (ts:List Value) (m:Nat) (ps:List Value):Prop:=n=m∧i=0∧n≤1000∧(∀ j,j < n→c8 ts j=true)∧(∀ j,j < n→dd ps j=true)∧∃ q,q < n∧(∀ j,j < q→bJ ts ps j=0)∧¬ bJ ts ps q=0
def EH (er i:Int) (n:Nat) (ts:List Value) (m:Nat) (ps:List Value) (ρ:Int×Int):Prop:=ρ.1=dL ts ps n
theorem aaE (er i:Int) (n:Nat) (ts:List Value) (m:Nat) (ps:List Value) (h:vk er i n ts m ps):∃ ρ:Int×Int,av Tryz.prog (lb 19 qh) (qB er i n ts m ps) (pJ er i n ts m ps) .ret (qB ρ.1 ρ.2 n ts m ps) (pJ ρ.1 ρ.2 n ts m ps)∧EH er i n ts m ps ρ:=by
 obtain ⟨rfl,rfl,I,O,J,q,M,h,G⟩:=h
 have e:=KY h G (n - (q+1))
 rw [show q+1+(n - (q+1))=n by omega] at e
 exact ⟨(bJ ts ps q,(q:Int)),Zy I O J q M h G q 0 (by omega),e.symm⟩
def Hi (M:Int→Int→Nat→List Value→Nat→List Value→Bool) (J:Int→Int→Nat→List Value→Nat→List Value→Int×Int) (T:List AV) (H:Hp):Option (Bool×Ex×List AV×Hp):=
 match al T 1,al T 2,al T 3,H with
 | .ptr 0 0, .val (.int .i64 er), .val (.int .i64 i), [.row (.cells [.lst false 27 n I, .lst false 35 m G]) 25 .live]=>bif T.length==59 then some (an 3 n I&&an 6 m G&&M er i n (ag 3 n I) m (ag 6 m G), .ret,qB ((J er i n (ag 3 n I) m (ag 6 m G)).1) ((J er i n (ag 3 n I) m (ag 6 m G)).2) n (ag 3 n I) m (ag 6 m G),pJ ((J er i n (ag 3 n I) m (ag 6 m G)).1) ((J er i n (ag 3 n I) m (ag 6 m G)).2) n (ag 3 n I) m (ag 6 m G)) else none
 | _,_,_,_=>none
abbrev JG:Type:=Int→Int→Nat→List Value→Nat→List Value→Bool
abbrev I7:Type:=Int→Int→Nat→List Value→Nat→List Value→Int×Int
def Ce (G:JG) (I:I7) (L:aC):aC:=bp 0 19 qh [1,2,3] (Hi G I) L
def np (er i:Int) (n:Nat) (ts:List Value) (m:Nat) (ps:List Value):Int×Int:=Classical.epsilon fun ρ=>av Tryz.prog (lb 19 qh) (qB er i n ts m ps) (pJ er i n ts m ps) (.ret) (qB (ρ.1) (ρ.2) n ts m ps) (pJ (ρ.1) (ρ.2) n ts m ps)∧EH er i n ts m ps ρ
theorem Oc (er i:Int) (n:Nat) (ts:List Value) (m:Nat) (ps:List Value) (h:vk er i n ts m ps):av Tryz.prog (lb 19 qh) (qB er i n ts m ps) (pJ er i n ts m ps) (.ret) (qB ((np er i n ts m ps).1) ((np er i n ts m ps).2) n ts m ps) (pJ ((np er i n ts m ps).1) ((np er i n ts m ps).2) n ts m ps)∧EH er i n ts m ps (np er i n ts m ps):=Classical.epsilon_spec (aaE er i n ts m ps h)
def xY (er i:Int) (n:Nat) (ts:List Value) (m:Nat) (ps:List Value):Bool:= @decide (vk er i n ts m ps) (Classical.propDecidable _)
theorem Wd (er i:Int) (n:Nat) (ts:List Value) (m:Nat) (ps:List Value) (h:vk er i n ts m ps):xY er i n ts m ps=true:= @decide_eq_true _ (Classical.propDecidable _) h
theorem agf (T:List AV) (H:Hp) (e:Ex) (J:List AV) (I:Hp) (h:Hi xY np T H=some (true,e,J,I)):V.Ends Tryz.prog false 0 0 (.loop (lb 19 qh)) T H e J I:=by
 unfold Hi at h
 split at h
 ·rename_i er i n Z m U ab aE a1
  rw [Bool.cond_eq_ite] at h
  split at h
  ·rename_i M
   rw [beq_iff_eq] at M
   simp only [Option.some.injEq,Prod.mk.injEq,Bool.and_eq_true,decide_eq_true_eq] at h
   obtain ⟨⟨⟨k1,bx⟩,bD⟩,rfl,rfl,rfl⟩:=h
   have b0:= @of_decide_eq_true _ (Classical.propDecidable _) bD
   refine Ends.pre (Ends.gJ (Oc er i n (ag 3 n Z) m (ag 6 m U) b0).1.ends (bC.cons ⟨⟨rfl,fun _ _ _ _ _ a6=>mo (by kernel_rfl) (by kernel_rfl) k1 bx a6⟩,rfl,rfl⟩ bC.nil)) (fun α B w D b1 a7=>bq M (fun p O y G=> ?_) a7)
   simp only [List.mem_cons,List.not_mem_nil,or_false] at O
   rcases O with rfl | rfl | rfl
   ·rw [ab] at G;exact G
   ·rw [aE] at G;exact G
   ·rw [a1] at G;exact G
  ·cases h
 ·cases h
theorem Sb {L:aC} (h:aB Tryz.prog L):aB Tryz.prog (Ce xY np L):=h.bz Tz agf
end
end Go.Proofs.YtamcpiicmfielaaGreat.L
namespace Go.Proofs.YtamcpiicmfielaaGreat.L
open Go Go.V Go.RowKit Go.Proofs.YtamcpiicmfielaaGreat.Sp
open Go.Proofs (Tryz.prog)
noncomputable section
abbrev aW (n:Nat) (ts:List Value) (m:Nat) (ps:List Value):AV:= .agg [.lst false 27 n (ad 3 ts), .lst false 35 m (ad 6 ps)]
structure Cg where
 ck:Nat→List Value→Nat→List Value→Int
 ko:Nat→List Value→Nat→List Value→Bool
def bj (n:Nat) (ts:List Value) (m:Nat) (ps:List Value):Bool:=(List.range n).all (c8 ts)&&(List.range m).all (dd ps)
def aX:Cg where
 ck:=aS
 ko:=bj
theorem pQ {n:Nat} {ts:List Value} {m:Nat} {ps:List Value} (h:bj n ts m ps=true):(∀ j,j < n→c8 ts j=true)∧∀ j,j < m→dd ps j=true:=by
 unfold bj at h
 rw [Bool.and_eq_true] at h
 exact ⟨fun j G=>xq h.1 G,fun j G=>xq h.2 G⟩
def mz (G:Cg):TF:=fun args=>match args with
 | [.agg [.lst _ 27 n f, .lst _ 35 m g]]=>some (an 3 n f&&an 6 m g&&G.ko n (ag 3 n f) m (ag 6 m g), .val (.int .i64 (G.ck n (ag 3 n f) m (ag 6 m g))))
 | _=>none
theorem Zz (G:JH) (I:I8) (n:Nat) (ts:List Value) (m:Nat) (ps:List Value):aF Tryz.prog ⟨aK,au,Cf G I aq⟩ 10 10 18 [aW n ts m ps]=
  (bif !decide ((↑n:Int)=(↑m:Int)) then some (.val (.int .i64 9)) else (bif decide ((↑n:Int)=0) then some (.val (.int .i64 11)) else (bif decide (1000 < (↑n:Int)) then some (.val (.int .i64 4)) else (bif an 3 n (ad 3 ts)&&an 3 n (ad 3 ts)&&an 6 m (ad 6 ps)&&G (0:Int) n (ag 3 n (ad 3 ts)) (↑n:Int) (0:Int) n (ag 3 n (ad 3 ts)) m (ag 6 m (ad 6 ps)) then some (.val (.int .i64 0)) else none)))):=by kernel_rfl
theorem ZD (G:JI) (I:I9) (n:Nat) (ts:List Value) (m:Nat) (ps:List Value):aF Tryz.prog ⟨aK,au,Ch G I aq⟩ 10 10 18 [aW n ts m ps]=
  (bif !decide ((↑n:Int)=(↑m:Int)) then some (.val (.int .i64 9)) else (bif decide ((↑n:Int)=0) then some (.val (.int .i64 11)) else (bif decide (1000 < (↑n:Int)) then some (.val (.int .i64 4)) else (bif an 3 n (ad 3 ts)&&an 3 n (ad 3 ts)&&an 6 m (ad 6 ps)&&G (0:Int) n (ag 3 n (ad 3 ts)) (↑n:Int) (0:Int) n (ag 3 n (ad 3 ts)) m (ag 6 m (ad 6 ps)) then some (.val (.int .i64 ((I (0:Int) n (ag 3 n (ad 3 ts)) (↑n:Int) (0:Int) n (ag 3 n (ad 3 ts)) m (ag 6 m (ad 6 ps))).fst))) else none)))):=by kernel_rfl
theorem Zo (G:JF) (I:I6) (n:Nat) (ts:List Value) (m:Nat) (ps:List Value):aF Tryz.prog ⟨aK,au,Cd G I aq⟩ 10 10 19 [aW n ts m ps]=
  (bif !decide ((↑n:Int)=(↑m:Int)) then some (.val (.int .i64 9)) else (bif decide ((↑n:Int)=0) then some (.val (.int .i64 11)) else (bif decide (1000 < (↑n:Int)) then some (.val (.int .i64 4)) else (bif an 3 n (ad 3 ts)&&an 6 m (ad 6 ps)&&G (0:Int) (0:Int) n (ag 3 n (ad 3 ts)) m (ag 6 m (ad 6 ps)) then some (.val (.int .i64 0)) else none)))):=by kernel_rfl
theorem Zx (G:JG) (I:I7) (n:Nat) (ts:List Value) (m:Nat) (ps:List Value):aF Tryz.prog ⟨aK,au,Ce G I aq⟩ 10 10 19 [aW n ts m ps]=
  (bif !decide ((↑n:Int)=(↑m:Int)) then some (.val (.int .i64 9)) else (bif decide ((↑n:Int)=0) then some (.val (.int .i64 11)) else (bif decide (1000 < (↑n:Int)) then some (.val (.int .i64 4)) else (bif an 3 n (ad 3 ts)&&an 6 m (ad 6 ps)&&G (0:Int) (0:Int) n (ag 3 n (ad 3 ts)) m (ag 6 m (ad 6 ps)) then some (.val (.int .i64 ((I (0:Int) (0:Int) n (ag 3 n (ad 3 ts)) m (ag 6 m (ad 6 ps))).fst))) else none)))):=by kernel_rfl
theorem dM {fl G:Bool} {n m:Nat} {f g:Nat→Nat→AV} (I:an 3 n f=true) (J:an 6 m g=true):bE (.agg [.lst fl 27 n f, .lst G 35 m g]) (aW n (ag 3 n f) m (ag 6 m g)):=
 bE.agg (bc.cons (bE.row (by kernel_rfl) I) (bc.cons (bE.row (by kernel_rfl) J) (bc.refl _)))
theorem KW {f:FuncId} (aE:fB Tryz.prog f=true) (H:∀ (n:Nat) (ts:List Value) (m:Nat) (ps:List Value),ts.length=n*3→ps.length=m*6→bj n ts m ps=true→∃ (E:Env) (u d:Nat),bf Tryz.prog E.C∧dh Tryz.prog E∧aF Tryz.prog E u d f [aW n ts m ps]=some (.val (.int .i64 (aS n ts m ps)))):Entry Tryz.prog f (mz aX):=by
 refine gV aE (fun args r h=> ?_)
 unfold mz at h
 split at h
 ·rename_i fl n G a1 m I
  simp only [Option.some.injEq,Prod.mk.injEq,Bool.and_eq_true] at h
  obtain ⟨⟨⟨U,Z⟩,ab⟩,rfl⟩:=h
  obtain ⟨E,u,d,J,M,O⟩:=H n (ag 3 n G) m (ag 6 m I) (bI 3 n G) (bI 6 m I) ab
  exact ⟨E,u,d,_,_,J,M,O,bc.cons (dM U Z) (bc.refl _),bE.refl _⟩
 ·cases h
theorem ZC (n:Nat) (ts:List Value) (m:Nat) (ps:List Value) (l1:ts.length=n*3) (l2:ps.length=m*6) (a7:bj n ts m ps=true):∃ (E:Env) (u d:Nat),bf Tryz.prog E.C∧dh Tryz.prog E∧aF Tryz.prog E u d 18 [aW n ts m ps]=some (.val (.int .i64 (aS n ts m ps))):=by
 obtain ⟨ab,Z⟩:=pQ a7
 by_cases U:dL ts ps n=0
 ·
  refine ⟨⟨aK,au,Cf xZ sa aq⟩,10,10,aJ _,(Sc aB.none).ok, ?_⟩
  rw [Zz]
  by_cases I:n=m
  ·subst I
   rw [dT (show (n:Int)=n from rfl)]
   by_cases G:n=0
   ·rw [dT (show (n:Int)=0 by omega)]
    unfold aS
    rw [if_neg (fun h=>h rfl),if_pos G];rfl
   rw [dF (show ¬ (n:Int)=0 by omega)]
   by_cases J:1000 < n
   ·rw [dT (show (1000:Int) < n by omega)]
    unfold aS
    rw [if_neg (fun h=>h rfl),if_neg G,if_pos J];rfl
   rw [dF (show ¬ (1000:Int) < n by omega),aZ l1,aZ l2,bV,bV]
   unfold aS
   rw [if_neg (fun h=>h rfl),if_neg G,if_neg J]
   have M:vn 0 n ts n 0 n ts n ps:= ⟨rfl,rfl,rfl,rfl,rfl,by omega,ab,Z,CU U⟩
   rw [We _ _ _ _ _ _ _ _ _ M]
   rw [U];rfl
  ·rw [dF (show ¬ (n:Int)=(m:Int) by omega)]
   unfold aS
   rw [if_pos I];rfl
 ·
  refine ⟨⟨aK,au,Ch x7 nq aq⟩,10,10,aJ _,(Sd aB.none).ok, ?_⟩
  rw [ZD]
  by_cases I:n=m
  ·subst I
   rw [dT (show (n:Int)=n from rfl)]
   by_cases G:n=0
   ·rw [dT (show (n:Int)=0 by omega)]
    unfold aS
    rw [if_neg (fun h=>h rfl),if_pos G];rfl
   rw [dF (show ¬ (n:Int)=0 by omega)]
   by_cases J:1000 < n
   ·rw [dT (show (1000:Int) < n by omega)]
    unfold aS
    rw [if_neg (fun h=>h rfl),if_neg G,if_pos J];rfl
   rw [dF (show ¬ (1000:Int) < n by omega),aZ l1,aZ l2,bV,bV]
   unfold aS
   rw [if_neg (fun h=>h rfl),if_neg G,if_neg J]
   have M:vo 0 n ts n 0 n ts n ps:=by
    refine ⟨rfl,rfl,rfl,rfl,rfl,by omega,ab,Z, ?_⟩
    have aE:(List.range n).any (fun j=> !decide (bJ ts ps j=0))=true:=by
     rw [List.any_eq_true]
     apply Classical.byContradiction
     intro a6
     refine U (xL fun j O=>Classical.byContradiction fun a1=>a6 ⟨j,List.mem_range.2 O, ?_⟩)
     rw [decide_eq_false a1];rfl
    obtain ⟨q,q1,q2,bx⟩:=yz n aE
    refine ⟨q,q1,fun j O=> ?_, ?_⟩
    ·have:=q2 j O
     rwa [Bool.not_eq_false',decide_eq_true_eq] at this
    ·rwa [Bool.not_eq_true',decide_eq_false_iff_not] at bx
   rw [Wf _ _ _ _ _ _ _ _ _ M]
   rw [show (nq 0 n ts n 0 n ts n ps).1=dL ts ps n from (Od _ _ _ _ _ _ _ _ _ M).2];rfl
  ·rw [dF (show ¬ (n:Int)=(m:Int) by omega)]
   unfold aS
   rw [if_pos I];rfl
theorem Zr (n:Nat) (ts:List Value) (m:Nat) (ps:List Value) (l1:ts.length=n*3) (l2:ps.length=m*6) (a7:bj n ts m ps=true):∃ (E:Env) (u d:Nat),bf Tryz.prog E.C∧dh Tryz.prog E∧aF Tryz.prog E u d 19 [aW n ts m ps]=some (.val (.int .i64 (aS n ts m ps))):=by
 obtain ⟨ab,Z⟩:=pQ a7
 by_cases U:dL ts ps n=0
 ·
  refine ⟨⟨aK,au,Cd xX r9 aq⟩,10,10,aJ _,(Sa aB.none).ok, ?_⟩
  rw [Zo]
  by_cases I:n=m
  ·subst I
   rw [dT (show (n:Int)=n from rfl)]
   by_cases G:n=0
   ·rw [dT (show (n:Int)=0 by omega)]
    unfold aS
    rw [if_neg (fun h=>h rfl),if_pos G];rfl
   rw [dF (show ¬ (n:Int)=0 by omega)]
   by_cases J:1000 < n
   ·rw [dT (show (1000:Int) < n by omega)]
    unfold aS
    rw [if_neg (fun h=>h rfl),if_neg G,if_pos J];rfl
   rw [dF (show ¬ (1000:Int) < n by omega),aZ l1,aZ l2,bV,bV]
   unfold aS
   rw [if_neg (fun h=>h rfl),if_neg G,if_neg J]
   have M:vi 0 0 n ts n ps:= ⟨rfl,rfl,by omega,ab,Z,CU U⟩
   rw [Wc _ _ _ _ _ _ M]
   rw [U];rfl
  ·rw [dF (show ¬ (n:Int)=(m:Int) by omega)]
   unfold aS
   rw [if_pos I];rfl
 ·
  refine ⟨⟨aK,au,Ce xY np aq⟩,10,10,aJ _,(Sb aB.none).ok, ?_⟩
  rw [Zx]
  by_cases I:n=m
  ·subst I
   rw [dT (show (n:Int)=n from rfl)]
   by_cases G:n=0
   ·rw [dT (show (n:Int)=0 by omega)]
    unfold aS
    rw [if_neg (fun h=>h rfl),if_pos G];rfl
   rw [dF (show ¬ (n:Int)=0 by omega)]
   by_cases J:1000 < n
   ·rw [dT (show (1000:Int) < n by omega)]
    unfold aS
    rw [if_neg (fun h=>h rfl),if_neg G,if_pos J];rfl
   rw [dF (show ¬ (1000:Int) < n by omega),aZ l1,aZ l2,bV,bV]
   unfold aS
   rw [if_neg (fun h=>h rfl),if_neg G,if_neg J]
   have M:vk 0 0 n ts n ps:=by
    refine ⟨rfl,rfl,by omega,ab,Z, ?_⟩
    have aE:(List.range n).any (fun j=> !decide (bJ ts ps j=0))=true:=by
     rw [List.any_eq_true]
     apply Classical.byContradiction
     intro a6
     refine U (xL fun j O=>Classical.byContradiction fun a1=>a6 ⟨j,List.mem_range.2 O, ?_⟩)
     rw [decide_eq_false a1];rfl
    obtain ⟨q,q1,q2,bx⟩:=yz n aE
    refine ⟨q,q1,fun j O=> ?_, ?_⟩
    ·have:=q2 j O
     rwa [Bool.not_eq_false',decide_eq_true_eq] at this
    ·rwa [Bool.not_eq_true',decide_eq_false_iff_not] at bx
   rw [Wd _ _ _ _ _ _ M]
   rw [show (np 0 0 n ts n ps).1=dL ts ps n from (Oc _ _ _ _ _ _ M).2];rfl
  ·rw [dF (show ¬ (n:Int)=(m:Int) by omega)]
   unfold aS
   rw [if_pos I];rfl
theorem C6:Entry Tryz.prog 18 (mz aX):=KW (by kernel_rfl) ZC
theorem Dd:Entry Tryz.prog 19 (mz aX):=KW (by kernel_rfl) Zr
end
end Go.Proofs.YtamcpiicmfielaaGreat.L
namespace Go.Proofs.YtamcpiicmfielaaGreat.L
open Go Go.V Go.RowKit Go.Proofs.YtamcpiicmfielaaGreat.Sp Go.Proofs.YtamcpiicmfielaaGreat.F
open Go.Proofs (Tryz.prog)
noncomputable section
def toBC:Nat→Nat→List UInt8
 | 0,_=> []
 | k+1,n=>if n=0 then [] else toBC k (n / 256) ++ [UInt8.ofNat n]
theorem toBC_eq (k:Nat):∀ n,n < 256 ^ k→toBC k n=toB n:=by
 induction k with
 | zero=>
  intro n h
  have:n=0:=by rw [Nat.pow_zero] at h;omega
  subst this
  unfold toB;rfl
 | succ k I=>
  intro n h
  unfold toB toBC
  by_cases G:n=0
  ·rw [if_pos G,dif_pos G]
  ·rw [if_neg G,dif_neg G,I (n / 256) (by rw [Nat.pow_succ] at h;exact Nat.div_lt_of_lt_mul (by rw [Nat.mul_comm];exact h))]
def rO (n:Nat):ByteArray:=if n < 281474976710656 then ⟨(toBC 6 n).toArray⟩ else aA n
theorem Nj:rO=aA:=by
 funext n
 unfold rO
 split
 ·rename_i h
  rw [toBC_eq 6 n h];rfl
 ·rfl
def PK (mg:Nat→ByteArray):Sg:= { aa with ms:=fun z=>mg z.natAbs }
def ON (mg:Nat→ByteArray) (q:Rat):ByteArray:=if q.den=1 then ByteArray.mk #[] else mg q.den
def PX (mg:Nat→ByteArray):Qg:= { af with
 qs:=fun q=>mg q.num.natAbs
 qd:=ON mg
 ck:=fun b n d=>bif (b==wb (ji b n d))&&aG n (mg (ji b n d).num.natAbs)&&aG d (ON mg (ji b n d)) then 0 else 1 }
theorem aez:aa=PK rO:=by rw [Nj];rfl
theorem aeR:af=PX rO:=by rw [Nj];rfl
def Ik (S:Sg) (X:Xg) (G:Qg):FuncId→TF:=aw 87 (GO X G) (aw 28 (GM G) (aw 29 (wI G) (aw 31 (GQ G) (aw 30 (GL G) (aw 42 (GN G) (aw 23 (qK G) (aw 27 (GP G) (aw 49 (sR G) (aw 122 (GK S G) (aw 84 (qL S X G) (aw 123 (GU S X) (aw 69 (kW S) (aw 75 (kV S) (aw 64 (oT S) aK))))))))))))))
theorem Rp:bf Tryz.prog (Ik aa bd af):=(((((((((((((((aJ _).add Lo).add yo).add yp).add Yn).add Db).add XW).add Da).add X3).add pC).add X1).add XY).add X4).add Lw).add X0).add X2
def RL:FuncId→Bool:=fun g=> !(g==98 ||g==99)
def Gv:TF:=fun args=>match args with | []=>some (true, .val (.bool true)) | _=>none
theorem Tb:aF Tryz.prog ⟨Ik (PK rO) bd (PX rO),RL,aq⟩ 20 20 9 []=some (.val (.bool true)):=by kernel_rfl
theorem Xz:Entry Tryz.prog 9 Gv:=bg Rp aN mixed (by kernel_rfl) (fun args r h=>by
 unfold Gv at h
 split at h
 ·cases h;rw [aez,aeR];exact Tb
 ·cases h)
end
end Go.Proofs.YtamcpiicmfielaaGreat.L
namespace Go.Proofs.YtamcpiicmfielaaGreat.L
open Go Go.V Go.RowKit Go.Proofs.YtamcpiicmfielaaGreat.Sp
open Go.Proofs (Tryz.prog)
noncomputable section
theorem C2 {a b:Rat} :0≤af.cq a b↔¬ a < b:=by
 show 0≤iG a b↔_
 unfold iG
 split
 ·rename_i h
  exact ⟨fun G=>by omega,fun G=>absurd h G⟩
 ·rename_i h
  exact ⟨fun _=>h,fun _=>by split <;> omega⟩
def cg (ts:List Value) (x:Rat):Nat→Nat
 | 0=>0
 | n+1=>if cg ts x n=n then (if qt ts n < x then n+1 else n) else cg ts x n
theorem z8 (ts:List Value) (x:Rat) (n:Nat):cg ts x n≤n∧(∀ k,k < cg ts x n→qt ts k < x)∧(cg ts x n < n→¬ qt ts (cg ts x n) < x):=by
 induction n with
 | zero=>exact ⟨Nat.le_refl _,fun k I=>absurd I (Nat.not_lt_zero k),fun h=>absurd h (Nat.lt_irrefl 0)⟩
 | succ n U=>
  obtain ⟨Z,G,M⟩:=U
  unfold cg
  split
  ·rename_i ab
   split
   ·rename_i J
    refine ⟨Nat.le_refl _,fun k I=> ?_,fun h=>by omega⟩
    by_cases O:k=n
    ·subst O;exact J
    ·exact G k (by omega)
   ·rename_i J
    exact ⟨by omega,fun k I=>G k (by omega),fun _=>J⟩
  ·exact ⟨by omega,G,fun h=>M (by omega)⟩
theorem FQ {ts:List Value} {x:Rat} {n s:Nat} (U:s≤n) (J:∀ k,k < s→qt ts k < x) (M:s < n→¬ qt ts s < x):s=cg ts x n:=by
 obtain ⟨O,G,I⟩:=z8 ts x n
 rcases Nat.lt_trichotomy s (cg ts x n) with h | h | h
 ·exact absurd (G s h) (M (by omega))
 ·exact h
 ·exact absurd (J _ h) (I (by omega))
structure pd (n:Nat) (ts:List Value):Prop where
 lim:n≤1000
 ok:∀ j,j < n→c8 ts j=true
 up:∀ j,j+1 < n→qt ts j < qt ts (j+1)
theorem pd.mono {n:Nat} {ts:List Value} (h:pd n ts) {a:Nat} (d:Nat):a+d < n→qt ts a≤qt ts (a+d):=by
 induction d with
 | zero=>intro _;exact Rat.le_refl
 | succ d G=>
  intro hb
  exact Rat.le_trans (G (by omega)) (Rat.le_of_lt (h.up (a+d) (by omega)))
theorem pd.le {n:Nat} {ts:List Value} (h:pd n ts) {a b:Nat} (G:a≤b) (hb:b < n):qt ts a≤qt ts b:=by
 obtain ⟨d,rfl⟩:=Nat.exists_eq_add_of_le G
 exact h.mono d hb
section
variable {n : Nat} {ts ps : List Value} {xb : Bool} {xn xd : BA} {z0 : Bool} {z1 z2 : BA} {z3 : Bool} {z4 z5 : BA}
end
end
end Go.Proofs.YtamcpiicmfielaaGreat.L
namespace Go.Proofs.YtamcpiicmfielaaGreat.L
open Go Go.V Go.RowKit Go.Proofs.YtamcpiicmfielaaGreat.Sp
open Go.Proofs (Tryz.prog)
noncomputable section
def p5 (f:Bool→BA→BA→Bool→BA→BA→Bool→BA→BA→Bool→BA→BA→Bool→BA→BA→Option (Bool×AV)):TF:=fun args=>match args with
 | [.agg [.val (.bool b), .val (.string n), .val (.string d), .val (.bool c), .val (.string m), .val (.string e)], .agg [.val (.bool G), .val (.string ab), .val (.string M), .val (.bool J), .val (.string Z), .val (.string U)], .agg [.val (.bool I), .val (.string aE), .val (.string O)]]=>f b n d c m e G ab M J Z U I aE O
 | _=>none
def KA (a b t:Rat):Rat:=a+(b - a)*t
def fi (n:Nat) (ts:List Value) (c:Nat→Rat) (x:Rat):Rat:=
 if cg ts x n=0 then c 0 else if cg ts x n=n then c (n - 1) else KA (c (cg ts x n - 1)) (c (cg ts x n)) ((x - qt ts (cg ts x n - 1)) / (qt ts (cg ts x n) - qt ts (cg ts x n - 1)))
structure tt (n:Nat) (ts:List Value) (m:Nat) (ps:List Value):Prop where
 eq:n=m
 pos:0 < n
 ts:pd n ts
 kC:∀ j,j < n→dd ps j=true
 can:∀ j,j < n→mV ps j=0
theorem UO {b:Bool} {n d:BA} (h:af.ck b n d=0):b=af.qn (af.qv b n d)∧n=af.qs (af.qv b n d)∧d=af.qd (af.qv b n d):=by
 have I:(bif (b==wb (ji b n d))&&aG n (zN (ji b n d))&&aG d (lD (ji b n d)) then (0:Int) else 1)=0:=h
 cases G:(b==wb (ji b n d))&&aG n (zN (ji b n d))&&aG d (lD (ji b n d)) with
 | false=>rw [G] at I;cases I
 | true=>
  simp only [Bool.and_eq_true,beq_iff_eq,oQ,decide_eq_true_eq] at G
  exact ⟨G.1.1,G.1.2,G.2⟩
theorem UC {x y z:Value} (h:aY x y z=true) (Z:af.ck (az x) (ah y) (ah z)=0):x= .bool (af.qn (af.qv (az x) (ah y) (ah z)))∧y= .string (af.qs (af.qv (az x) (ah y) (ah z)))∧z= .string (af.qd (af.qv (az x) (ah y) (ah z))):=by
 obtain ⟨M,O,U⟩:=j6 h
 obtain ⟨G,I,J⟩:=UO Z
 exact ⟨by rw [← G];exact M,by rw [← I];exact O,by rw [← J];exact U⟩
theorem NH {ts:List Value} {j:Nat} (h:c8 ts j=true):cK (qt ts j)≤1000:=by
 obtain ⟨_,G⟩:=df h
 have:=uT G
 have:=Gt (az (ts.getD (j*3+0) undef)) (ah (ts.getD (j*3+1) undef)) (ah (ts.getD (j*3+2) undef))
 unfold qt
 omega
theorem ss (ts:List Value) (j:Nat):af.qv (az (ts.getD (j*3+0) undef)) (ah (ts.getD (j*3+1) undef)) (ah (ts.getD (j*3+2) undef))=qt ts j:=rfl
end
end Go.Proofs.YtamcpiicmfielaaGreat.L
