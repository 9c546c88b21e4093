import Derived.Test.YtamcpiicmfielaaGreatZQA
import Derived.Test.YtamcpiicmfielaaGreatZNB
import Derived.Test.YtamcpiicmfielaaGreatZNA
import Derived.Test.YtamcpiicmfielaaGreatZQB
set_option linter.unusedVariables false
set_option linter.unusedSimpArgs false
namespace Go.Proofs.YtamcpiicmfielaaGreat.L
open Go Go.V Go.RowKit Go.Proofs.YtamcpiicmfielaaGreat.Sp Go.Proofs.YtamcpiicmfielaaGreat.F
open Go.Proofs (Tryz.prog)
noncomputable section
def nM (G:Qg) (f:Bool→ByteArray→ByteArray→AV):TF:=fun args=>match args with | [.agg [.val (.bool b), .val (.string n), .val (.string d)]]=>some (G.aV n d,f b n d) | _=>none
def QO (G:Qg) (f:Rat→Rat→AV):TF:=fun args=>match args with | [.agg [.val (.bool b), .val (.string n), .val (.string d)], .agg [.val (.bool c), .val (.string m), .val (.string e)]]=>some (G.aV n d&&G.aV m e,f (G.qv b n d) (G.qv c m e)) | _=>none
def wK (S:Sg) (G:Qg):TF:=nM G fun b n d=> .tup [S.int (S.val b n),S.int (S.val false (G.fd d))]
def wM (S:Sg) (X:Xg) (G:Qg):TF:=fun args=>match args with | [.agg [.val (.bool b), .val (.string s)], .agg [.val (.bool c), .val (.string t)]]=>some (X.cN s&&X.cN t&& !decide (S.val c t=0),G.rat (G.fr (S.val b s) (S.val c t))) | _=>none
def Au (S:Sg):TF:=fun args=>match args with | [.val (.int .i64 n)]=>some (decide (0≤n)&&decide (n < 72057594037927936), .val (.string (S.mg n.toNat))) | _=>none
def Aw (G:Qg):TF:=nM G fun b n d=>G.rat (G.qv b n d)
abbrev gh:List Bool:= [false,true,false,true,true]
def kK (s:ByteArray) (v i:Int):List AV:=ar 19 [(0, .val (.string s)),(3, .val (.int .i64 v)),(4, .val (.int .i64 i))]
def jS (s:ByteArray) (v i:Int):Hp:= []
theorem TK:aH Tryz.prog 125 gh=some (.loop (lb 125 gh)):=by kernel_rfl
theorem Vp:aH Tryz.prog 125 (false :: gh)=some (lb 125 gh):=by kernel_rfl
theorem O9 (s:ByteArray) (v i:Int):aO Tryz.prog br 125 [0,3,4] (lb 125 gh) (false :: gh) (kK s v i) (jS s v i)=
  (bif decide (i < (↑s.size:Int)) then (bif ai IntKind.i64 (256*v) then (bif decide (0≤i)&&decide (i < (↑s.size:Int)) then (bif ai IntKind.i64 (aR s i.toNat) then (bif ai IntKind.i64 (256*v+aR s i.toNat) then (bif ai IntKind.i64 (i+1) then some (.normal,ar 19 [(0,(.val (.string s))),(3,(.val (.int .i64 (256*v+aR s i.toNat)))),(4,(.val (.int .i64 (i+1))))], []) else none) else none) else none) else none) else none) else some ((.exit 0),ar 19 [(0,(.val (.string s))),(3,(.val (.int .i64 v))),(4,(.val (.int .i64 i)))], [])):=by kernel_rfl
theorem P8 {s:ByteArray} {v i:Int} {e:Ex} {T:List AV} {H:Hp} (h:aO Tryz.prog br 125 [0,3,4] (lb 125 gh) (false :: gh) (kK s v i) (jS s v i)=some (e,T,H)):V.Ends Tryz.prog false 0 0 (lb 125 gh) (kK s v i) (jS s v i) e T H:=
 bF (aJ _) aN mixed Vp h
def vy (s:ByteArray) (v i:Int):Prop:=s.size≤3∧v=0∧i=0
def EP (s:ByteArray) (v i:Int) (r:Int×Int):Prop:=r.1=(vS s:Nat)
theorem abQ (s:ByteArray) (ab:s.size≤3) (d:Nat):∀ i:Nat,i+d=s.size→∃ r:Int×Int,av Tryz.prog (lb 125 gh) (kK s (vB (s.data.toList.take i):Nat) i) (jS s (vB (s.data.toList.take i):Nat) i) (.exit 0) (kK s r.1 r.2) (jS s r.1 r.2)∧r.1=(vS s:Nat):=by
 induction d with
 | zero=>
  intro i hi
  have O:i=s.size:=by omega
  subst O
  have e:s.data.toList.take s.size=s.data.toList:=List.take_of_length_le (by rw [Array.length_toList];exact Nat.le_refl _)
  refine ⟨((vB (s.data.toList.take s.size):Nat),(s.size:Int)), .last (P8 ?_) (by intro h;cases h),by rw [e];rfl⟩
  rw [O9,dF (show ¬ ((s.size:Int) < s.size) by omega)]
  rfl
 | succ d Z=>
  intro i hi
  obtain ⟨r,J,M⟩:=Z (i+1) (by omega)
  refine ⟨r, .more (P8 ?_) J,M⟩
  rw [O9]
  have hb:=lQ s i
  have U:=qP s i (by omega)
  have I:=Ib s.data.toList (i+1)
  have I:vB (s.data.toList.take (i+1))≤vS s:=I
  have aE:=qQ (s:=s) (by omega)
  obtain ⟨c,G⟩:∃ c:Nat,aR s i=c:= ⟨(aR s i).toNat,by omega⟩
  rw [G] at hb U
  have e:((vB (s.data.toList.take (i+1)):Nat):Int)=256*((vB (s.data.toList.take i):Nat):Int)+(c:Int):=by omega
  rw [Int.toNat_natCast,G,aM (z:=256*((vB (s.data.toList.take i):Nat):Int)) (by omega),aM (z:=(c:Int)) (by omega),aM (z:=256*((vB (s.data.toList.take i):Nat):Int)+(c:Int)) (by omega),aM (z:=(i:Int)+1) (by omega),dT (show (i:Int) < s.size by omega),dT (show (0:Int)≤(i:Int) by omega)]
  rw [e]
  rfl
theorem aaO (s:ByteArray) (v i:Int) (h:vy s v i):∃ r:Int×Int,av Tryz.prog (lb 125 gh) (kK s v i) (jS s v i) (.exit 0) (kK s r.1 r.2) (jS s r.1 r.2)∧EP s v i r:=by
 obtain ⟨G,rfl,rfl⟩:=h
 exact abQ s G s.size 0 (by omega)
def Hv (I:ByteArray→Int→Int→Bool) (G:ByteArray→Int→Int→Int×Int) (T:List AV) (H:Hp):Option (Bool×Ex×List AV×Hp):=
 match al T 0,al T 3,al T 4,H with
 | .val (.string s), .val (.int .i64 v), .val (.int .i64 i), []=>bif T.length==19 then some (I s v i, .exit 0,kK s ((G s v i).1) ((G s v i).2),jS s ((G s v i).1) ((G s v i).2)) else none
 | _,_,_,_=>none
abbrev JL:Type:=ByteArray→Int→Int→Bool
abbrev Jc:Type:=ByteArray→Int→Int→Int×Int
def Ck (G:JL) (I:Jc) (L:aC):aC:=bp 0 125 gh [0,3,4] (Hv G I) L
def nr (s:ByteArray) (v i:Int):Int×Int:=Classical.epsilon fun ρ=>av Tryz.prog (lb 125 gh) (kK s v i) (jS s v i) (.exit 0) (kK s (ρ.1) (ρ.2)) (jS s (ρ.1) (ρ.2))∧EP s v i ρ
theorem Oj (s:ByteArray) (v i:Int) (h:vy s v i):av Tryz.prog (lb 125 gh) (kK s v i) (jS s v i) (.exit 0) (kK s ((nr s v i).1) ((nr s v i).2)) (jS s ((nr s v i).1) ((nr s v i).2))∧EP s v i (nr s v i):=Classical.epsilon_spec (aaO s v i h)
def ya (s:ByteArray) (v i:Int):Bool:= @decide (vy s v i) (Classical.propDecidable _)
theorem Wm (s:ByteArray) (v i:Int) (h:vy s v i):ya s v i=true:= @decide_eq_true _ (Classical.propDecidable _) h
theorem agq (T:List AV) (H:Hp) (e:Ex) (J:List AV) (I:Hp) (h:Hv ya nr T H=some (true,e,J,I)):V.Ends Tryz.prog false 0 0 (.loop (lb 125 gh)) T H e J I:=by
 unfold Hv at h
 split at h
 ·rename_i s v i U Z ab
  rw [Bool.cond_eq_ite] at h
  split at h
  ·rename_i M
   rw [beq_iff_eq] at M
   simp only [Option.some.injEq,Prod.mk.injEq,Bool.and_eq_true,decide_eq_true_eq] at h
   obtain ⟨k1,rfl,rfl,rfl⟩:=h
   have a1:= @of_decide_eq_true _ (Classical.propDecidable _) k1
   refine Ends.pre (Oj s v i a1).1.ends (fun α B w D a6 aE=>bq M (fun p O y G=> ?_) aE)
   simp only [List.mem_cons,List.not_mem_nil,or_false] at O
   rcases O with rfl | rfl | rfl
   ·rw [U] at G;exact G
   ·rw [Z] at G;exact G
   ·rw [ab] at G;exact G
  ·cases h
 ·cases h
theorem Sj {L:aC} (h:aB Tryz.prog L):aB Tryz.prog (Ck ya nr L):=h.bz TK agq
theorem abP (G:JL) (I:Jc) (s:ByteArray):aF Tryz.prog ⟨aK,au,Ck G I aq⟩ 10 10 125 [.val (.string s)]=
  (bif G s (0:Int) (0:Int) then some (.val (.int .i64 ((I s (0:Int) (0:Int)).fst))) else none):=by kernel_rfl
theorem Yj:Entry Tryz.prog 125 (qI aa):=by
 refine bg (E:= ⟨aK,au,Ck ya nr aq⟩) (u:=10) (d:=10) (aJ _) (Sj aB.none).ok mixed (by kernel_rfl) (fun args r h=> ?_)
 unfold qI at h
 split at h
 ·rename_i s
  simp only [Option.some.injEq,Prod.mk.injEq,decide_eq_true_eq] at h
  obtain ⟨J,rfl⟩:=h
  have I:vy s 0 0:= ⟨J,rfl,rfl⟩
  have G:=(Oj _ _ _ I).2
  have G:(nr s 0 0).1=(vS s:Nat):=G
  rw [abP,Wm _ _ _ I,G]
  rfl
 ·cases h
theorem aef (S:Sg) (b:Bool) (n d:ByteArray):aF Tryz.prog ⟨aw 125 (qI S) aK,au,aq⟩ 10 10 93 [.agg [.val (.bool b), .val (.string n), .val (.string d)]]=
  (bif decide (3 < (↑n.size:Int)) then some (.tup [(.val (.int .i64 0)),(.val (.int .i64 0)),(.val (.bool false))]) else (bif decide (3 < (↑d.size:Int)) then some (.tup [(.val (.int .i64 0)),(.val (.int .i64 0)),(.val (.bool false))]) else (bif decide (n.size≤3) then (bif decide (d.size≤3) then (bif decide ((↑(S.vs d):Int)=0) then (bif b then some (.tup [(.val (.int .i64 (IntKind.i64.wrap (0 - (↑(S.vs n):Int))))),(.val (.int .i64 1)),(.val (.bool true))]) else some (.tup [(.val (.int .i64 ((↑(S.vs n):Int)))),(.val (.int .i64 1)),(.val (.bool true))])) else (bif b then some (.tup [(.val (.int .i64 (IntKind.i64.wrap (0 - (↑(S.vs n):Int))))),(.val (.int .i64 ((↑(S.vs d):Int)))),(.val (.bool true))]) else some (.tup [(.val (.int .i64 ((↑(S.vs n):Int)))),(.val (.int .i64 ((↑(S.vs d):Int)))),(.val (.bool true))]))) else none) else none))):=by kernel_rfl
theorem adj (n:Int):letI O:=(n.fdiv (4294967296:Int));letI J:=(n.fdiv (16777216:Int));letI a1:=(ofBytes [IntKind.u8.wrap (n.fdiv (281474976710656:Int)),IntKind.u8.wrap (n.fdiv (1099511627776:Int)),IntKind.u8.wrap O,IntKind.u8.wrap J,IntKind.u8.wrap (n.fdiv (65536:Int)),IntKind.u8.wrap (n.fdiv (256:Int)),IntKind.u8.wrap (n.fdiv (1:Int))]);letI ab:Option AV:=(bif decide (0 < (n.fdiv (1:Int)).tmod (256:Int)) then some (.val (.string a1)) else some (.val (.string a1)));letI G:Option AV:=(bif decide (0 < (n.fdiv (256:Int)).tmod (256:Int)) then ab else ab);letI a7:=(ofBytes [IntKind.u8.wrap (n.fdiv (1099511627776:Int)),IntKind.u8.wrap O,IntKind.u8.wrap J,IntKind.u8.wrap (n.fdiv (65536:Int)),IntKind.u8.wrap (n.fdiv (256:Int)),IntKind.u8.wrap (n.fdiv (1:Int))]);letI I:Option AV:=(bif decide (0 < (n.fdiv (1:Int)).tmod (256:Int)) then some (.val (.string a7)) else some (.val (.string a7)));letI bx:=(ofBytes [IntKind.u8.wrap O,IntKind.u8.wrap J,IntKind.u8.wrap (n.fdiv (65536:Int)),IntKind.u8.wrap (n.fdiv (256:Int)),IntKind.u8.wrap (n.fdiv (1:Int))]);letI M:Option AV:=(bif decide (0 < (n.fdiv (1:Int)).tmod (256:Int)) then some (.val (.string bx)) else some (.val (.string bx)));letI Z:=(ofBytes [IntKind.u8.wrap J,IntKind.u8.wrap (n.fdiv (65536:Int)),IntKind.u8.wrap (n.fdiv (256:Int)),IntKind.u8.wrap (n.fdiv (1:Int))]);letI U:Option AV:=(bif decide (0 < (n.fdiv (1:Int)).tmod (256:Int)) then some (.val (.string Z)) else some (.val (.string Z)));letI aE:=(ofBytes [IntKind.u8.wrap (n.fdiv (65536:Int)),IntKind.u8.wrap (n.fdiv (256:Int)),IntKind.u8.wrap (n.fdiv (1:Int))]);letI a6:Option AV:=(bif decide (0 < (n.fdiv (1:Int)).tmod (256:Int)) then some (.val (.string aE)) else some (.val (.string aE)));
  (aF Tryz.prog ⟨aK,fun _=>false,aq⟩ 10 10 126 [.val (.int .i64 n)]=(bif decide (0 < (n.fdiv (281474976710656:Int)).tmod (256:Int)) then (bif decide (0 < (n.fdiv (1099511627776:Int)).tmod (256:Int)) then (bif decide (0 < O.tmod (256:Int)) then (bif decide (0 < J.tmod (256:Int)) then (bif decide (0 < (n.fdiv (65536:Int)).tmod (256:Int)) then G else G) else (bif decide (0 < (n.fdiv (65536:Int)).tmod (256:Int)) then G else G)) else (bif decide (0 < J.tmod (256:Int)) then (bif decide (0 < (n.fdiv (65536:Int)).tmod (256:Int)) then G else G) else (bif decide (0 < (n.fdiv (65536:Int)).tmod (256:Int)) then G else G))) else (bif decide (0 < O.tmod (256:Int)) then (bif decide (0 < J.tmod (256:Int)) then (bif decide (0 < (n.fdiv (65536:Int)).tmod (256:Int)) then G else G) else (bif decide (0 < (n.fdiv (65536:Int)).tmod (256:Int)) then G else G)) else (bif decide (0 < J.tmod (256:Int)) then (bif decide (0 < (n.fdiv (65536:Int)).tmod (256:Int)) then G else G) else (bif decide (0 < (n.fdiv (65536:Int)).tmod (256:Int)) then G else G)))) else (bif decide (0 < (n.fdiv (1099511627776:Int)).tmod (256:Int)) then (bif decide (0 < O.tmod (256:Int)) then (bif decide (0 < J.tmod (256:Int)) then (bif decide (0 < (n.fdiv (65536:Int)).tmod (256:Int)) then (bif decide (0 < (n.fdiv (256:Int)).tmod (256:Int)) then I else I) else (bif decide (0 < (n.fdiv (256:Int)).tmod (256:Int)) then I else I)) else (bif decide (0 < (n.fdiv (65536:Int)).tmod (256:Int)) then (bif decide (0 < (n.fdiv (256:Int)).tmod (256:Int)) then I else I) else (bif decide (0 < (n.fdiv (256:Int)).tmod (256:Int)) then I else I))) else (bif decide (0 < J.tmod (256:Int)) then (bif decide (0 < (n.fdiv (65536:Int)).tmod (256:Int)) then (bif decide (0 < (n.fdiv (256:Int)).tmod (256:Int)) then I else I) else (bif decide (0 < (n.fdiv (256:Int)).tmod (256:Int)) then I else I)) else (bif decide (0 < (n.fdiv (65536:Int)).tmod (256:Int)) then (bif decide (0 < (n.fdiv (256:Int)).tmod (256:Int)) then I else I) else (bif decide (0 < (n.fdiv (256:Int)).tmod (256:Int)) then I else I)))) else (bif decide (0 < O.tmod (256:Int)) then (bif decide (0 < J.tmod (256:Int)) then (bif decide (0 < (n.fdiv (65536:Int)).tmod (256:Int)) then (bif decide (0 < (n.fdiv (256:Int)).tmod (256:Int)) then M else M) else (bif decide (0 < (n.fdiv (256:Int)).tmod (256:Int)) then M else M)) else (bif decide (0 < (n.fdiv (65536:Int)).tmod (256:Int)) then (bif decide (0 < (n.fdiv (256:Int)).tmod (256:Int)) then M else M) else (bif decide (0 < (n.fdiv (256:Int)).tmod (256:Int)) then M else M))) else (bif decide (0 < J.tmod (256:Int)) then (bif decide (0 < (n.fdiv (65536:Int)).tmod (256:Int)) then (bif decide (0 < (n.fdiv (256:Int)).tmod (256:Int)) then U else U) else (bif decide (0 < (n.fdiv (256:Int)).tmod (256:Int)) then U else U)) else (bif decide (0 < (n.fdiv (65536:Int)).tmod (256:Int)) then (bif decide (0 < (n.fdiv (256:Int)).tmod (256:Int)) then a6 else a6) else (bif decide (0 < (n.fdiv (256:Int)).tmod (256:Int)) then (bif decide (0 < (n.fdiv (1:Int)).tmod (256:Int)) then some (.val (.string (ofBytes [IntKind.u8.wrap (n.fdiv (256:Int)),IntKind.u8.wrap (n.fdiv (1:Int))]))) else some (.val (.string (ofBytes [IntKind.u8.wrap (n.fdiv (256:Int)),IntKind.u8.wrap (n.fdiv (1:Int))])))) else (bif decide (0 < (n.fdiv (1:Int)).tmod (256:Int)) then some (.val (.string (ofBytes [IntKind.u8.wrap (n.fdiv (1:Int))]))) else some (.val (.string (ofBytes []))))))))))):=by kernel_rfl
def bl (n:Nat):Nat→List Int
 | 0=> []
 | k+1=>bl (n / 256) k ++ [((n % 256:Nat):Int)]
theorem KG:∀ (k n:Nat),n < 256 ^ k→(k=0∨256 ^ (k - 1)≤n)→(bl n k).map (fun z=>UInt8.ofNat z.toNat)=toB n
 | 0,n,h,_=>by
  have:n=0:=by simpa using h
  subst this
  rw [toB_zero];rfl
 | k+1,n,h,G=>by
  have I:256 ^ k≤n:=by
   rcases G with G | G
   ·omega
   ·exact G
  have O:0 < 256 ^ k:=Nat.pow_pos (by decide)
  have J:n / 256 < 256 ^ k:=by rw [Nat.div_lt_iff_lt_mul (by decide),← Nat.pow_succ];exact h
  have M:k=0∨256 ^ (k - 1)≤n / 256:=by
   rcases Nat.eq_zero_or_pos k with e | e
   ·exact .inl e
   ·right
    rw [Nat.le_div_iff_mul_le (by decide),← Nat.pow_succ,show (k - 1).succ=k by omega]
    exact I
  rw [toB_pos (by omega),← KG k (n / 256) J M]
  show (bl (n / 256) k ++ [((n % 256:Nat):Int)]).map _=_
  rw [List.map_append]
  refine congrArg (_ ++ ·) ?_
  show [UInt8.ofNat (n % 256)]= [UInt8.ofNat n]
  refine congrArg (fun x=> [x]) ?_
  apply UInt8.toNat_inj.1
  rw [UInt8.toNat_ofNat',UInt8.toNat_ofNat']
  omega
theorem nV {k n:Nat} {zs:List Int} (e:zs=bl n k) (h:n < 256 ^ k) (G:k=0∨256 ^ (k - 1)≤n):ofBytes zs=aA n:=by
 rw [e];exact NA (KG k n h G)
theorem WI {α:Type} (u:Bool) (x:α):(bif u then x else x)=x:=by cases u <;> rfl
theorem X5:Entry Tryz.prog 126 (Au aa):=by
 refine bg (E:= ⟨aK,fun _=>false,aq⟩) (u:=10) (d:=10) (aJ _) aN mixed (by kernel_rfl) (fun args r h=> ?_)
 unfold Au at h
 split at h
 ·rename_i z
  simp only [Option.some.injEq,Prod.mk.injEq,Bool.and_eq_true,decide_eq_true_eq] at h
  obtain ⟨⟨b0,b3⟩,rfl⟩:=h
  obtain ⟨n,rfl⟩:=Int.eq_ofNat_of_zero_le b0
  have b1:n < 72057594037927936:=by omega
  rw [Int.toNat_natCast,adj]
  simp only [WI]
  have bD:(n:Int).fdiv (281474976710656:Int)=((n / 281474976710656:Nat):Int):=iJ n 281474976710656
  have bx:(n:Int).fdiv (1099511627776:Int)=((n / 1099511627776:Nat):Int):=iJ n 1099511627776
  have a7:(n:Int).fdiv (4294967296:Int)=((n / 4294967296:Nat):Int):=iJ n 4294967296
  have a6:(n:Int).fdiv (16777216:Int)=((n / 16777216:Nat):Int):=iJ n 16777216
  have a1:(n:Int).fdiv (65536:Int)=((n / 65536:Nat):Int):=iJ n 65536
  have aE:(n:Int).fdiv (256:Int)=((n / 256:Nat):Int):=iJ n 256
  have f0:(n:Int).fdiv (1:Int)=(n:Int):=by rw [Int.fdiv_one]
  have b2:∀ k:Nat,((k:Nat):Int).tmod (256:Int)=((k % 256:Nat):Int):=fun k=>rfl
  rw [bD,bx,a7,a6,a1,aE,f0]
  simp only [b2,kY]
  have G:∀ zs,ofBytes zs=aA n→some (AV.val (.string (ofBytes zs)))=some (AV.val (.string (aa.mg n))):=fun zs h=>by rw [h];rfl
  by_cases ab:281474976710656≤n
  ·rw [dT (show (0:Int) < ((n / 281474976710656 % 256:Nat):Int) by omega)]
   exact G _ (nV (k:=7) (by simp [bl,Nat.div_div_eq_div_mul]) b1 (.inr ab))
  ·rw [dF (show ¬ (0:Int) < ((n / 281474976710656 % 256:Nat):Int) by omega)]
   by_cases Z:1099511627776≤n
   ·rw [dT (show (0:Int) < ((n / 1099511627776 % 256:Nat):Int) by omega)]
    exact G _ (nV (k:=6) (by simp [bl,Nat.div_div_eq_div_mul]) (show n < 281474976710656 by omega) (.inr Z))
   ·rw [dF (show ¬ (0:Int) < ((n / 1099511627776 % 256:Nat):Int) by omega)]
    by_cases U:4294967296≤n
    ·rw [dT (show (0:Int) < ((n / 4294967296 % 256:Nat):Int) by omega)]
     exact G _ (nV (k:=5) (by simp [bl,Nat.div_div_eq_div_mul]) (show n < 1099511627776 by omega) (.inr U))
    ·rw [dF (show ¬ (0:Int) < ((n / 4294967296 % 256:Nat):Int) by omega)]
     by_cases O:16777216≤n
     ·rw [dT (show (0:Int) < ((n / 16777216 % 256:Nat):Int) by omega)]
      exact G _ (nV (k:=4) (by simp [bl,Nat.div_div_eq_div_mul]) (show n < 4294967296 by omega) (.inr O))
     ·rw [dF (show ¬ (0:Int) < ((n / 16777216 % 256:Nat):Int) by omega)]
      by_cases M:65536≤n
      ·rw [dT (show (0:Int) < ((n / 65536 % 256:Nat):Int) by omega)]
       exact G _ (nV (k:=3) (by simp [bl,Nat.div_div_eq_div_mul]) (show n < 16777216 by omega) (.inr M))
      ·rw [dF (show ¬ (0:Int) < ((n / 65536 % 256:Nat):Int) by omega)]
       by_cases J:256≤n
       ·rw [dT (show (0:Int) < ((n / 256 % 256:Nat):Int) by omega)]
        exact G _ (nV (k:=2) (by simp [bl,Nat.div_div_eq_div_mul]) (show n < 65536 by omega) (.inr J))
       ·rw [dF (show ¬ (0:Int) < ((n / 256 % 256:Nat):Int) by omega)]
        by_cases I:0 < n
        ·rw [dT (show (0:Int) < ((n % 256:Nat):Int) by omega)]
         exact G _ (nV (k:=1) (by simp [bl]) (show n < 256 by omega) (.inr I))
        ·rw [dF (show ¬ (0:Int) < ((n % 256:Nat):Int) by omega)]
         exact G _ (nV (k:=0) rfl (show n < 1 by omega) (.inl rfl))
 ·cases h
theorem LD:Entry Tryz.prog 93 (qJ af):=by
 refine bg (E:= ⟨aw 125 (qI aa) aK,au,aq⟩) (u:=10) (d:=10) ((aJ _).add Yj) aN mixed (by kernel_rfl) (fun args r h=> ?_)
 unfold qJ at h
 split at h
 ·rename_i b n d
  simp only [Option.some.injEq,Prod.mk.injEq,true_and] at h
  subst h
  rw [aef]
  have a1:∀ x y:ByteArray,af.ms x y=gM x y:=fun x y=>rfl
  have Z:af.mn b n d=bif gM n d then aa.val b n else 0:=rfl
  have O:af.md n d=bif gM n d then dn d else 0:=rfl
  rw [a1,Z,O]
  unfold gM
  by_cases J:n.size≤3
  ·by_cases M:d.size≤3
   ·rw [dF (show ¬ (3:Int) < n.size by omega),dF (show ¬ (3:Int) < d.size by omega),dT J,dT M]
    have G:=qQ (s:=n) (by omega)
    have G:aa.vs n < _:=G
    have ab:∀ b,aa.val b n=if b=true then -(aa.vs n:Int) else (aa.vs n:Int):=fun b=>rfl
    have aE:IntKind.i64.wrap (0 - ((aa.vs n:Nat):Int))= -((aa.vs n:Nat):Int):=by rw [IntKind.wrap_i64];omega
    have U:dn d=if aa.vs d=0 then 1 else (aa.vs d:Int):=rfl
    rw [U,aE,ab]
    by_cases I:aa.vs d=0
    ·rw [dT (show ((aa.vs d:Nat):Int)=0 by omega),if_pos I]
     cases b <;> rfl
    ·rw [dF (show ¬ ((aa.vs d:Nat):Int)=0 by omega),if_neg I]
     cases b <;> rfl
   ·rw [dF (show ¬ (3:Int) < n.size by omega),dT (show (3:Int) < d.size by omega),dF M,Bool.and_false];rfl
  ·rw [dT (show (3:Int) < n.size by omega),dF J];rfl
 ·cases h
end
end Go.Proofs.YtamcpiicmfielaaGreat.L
namespace Go.Proofs.YtamcpiicmfielaaGreat.L
open Go Go.V Go.RowKit Go.Proofs.YtamcpiicmfielaaGreat.Sp Go.Proofs.YtamcpiicmfielaaGreat.F
open Go.Proofs (Tryz.prog)
noncomputable section
abbrev gi:List Bool:= [false,false,true,true,true,true,true]
def kL (n d a c:Int) (J:Bool) (O M:ByteArray) (G:Bool) (I rd:ByteArray):List AV:=ar 41 [(0, .val (.int .i64 n)),(1, .val (.int .i64 d)),(4, .ptr 0 0),(5, .ptr 1 0),(6, .val (.int .i64 a)),(7, .val (.int .i64 c))]
def jT (n d a c:Int) (J:Bool) (O M:ByteArray) (G:Bool) (I rd:ByteArray):Hp:= [.row (.cells [.val (.bool J), .val (.string O), .val (.string M)]) 27 .live, .row (.cells [.val (.bool G), .val (.string I), .val (.string rd)]) 27 .live]
theorem TL:aH Tryz.prog 94 gi=some (.loop (lb 94 gi)):=by kernel_rfl
theorem Vq:aH Tryz.prog 94 (false :: gi)=some (lb 94 gi):=by kernel_rfl
theorem ad1 (n d a c:Int) (J:Bool) (O M:ByteArray) (G:Bool) (I rd:ByteArray):aO Tryz.prog br 94 [0,1,4,5,6,7] (lb 94 gi) (false :: gi) (kL n d a c J O M G I rd) (jT n d a c J O M G I rd)=
  (bif decide (0 < c) then (bif decide (c=0) then none else some (.normal,ar 41 [(0,(.val (.int .i64 n))),(1,(.val (.int .i64 d))),(4,(.ptr 0 0)),(5,(.ptr 1 0)),(6,(.val (.int .i64 c))),(7,(.val (.int .i64 (a.tmod c))))], [(.row (.cells [(.val (.bool J)),(.val (.string O)),(.val (.string M))]) 27 .live),(.row (.cells [(.val (.bool G)),(.val (.string I)),(.val (.string rd))]) 27 .live)])) else some ((.exit 0),ar 41 [(0,(.val (.int .i64 n))),(1,(.val (.int .i64 d))),(4,(.ptr 0 0)),(5,(.ptr 1 0)),(6,(.val (.int .i64 a))),(7,(.val (.int .i64 c)))], [(.row (.cells [(.val (.bool J)),(.val (.string O)),(.val (.string M))]) 27 .live),(.row (.cells [(.val (.bool G)),(.val (.string I)),(.val (.string rd))]) 27 .live)])):=by kernel_rfl
theorem P9 {n d a c:Int} {J:Bool} {O M:ByteArray} {G:Bool} {I rd:ByteArray} {e:Ex} {T:List AV} {H:Hp} (h:aO Tryz.prog br 94 [0,1,4,5,6,7] (lb 94 gi) (false :: gi) (kL n d a c J O M G I rd) (jT n d a c J O M G I rd)=some (e,T,H)):V.Ends Tryz.prog false 0 0 (lb 94 gi) (kL n d a c J O M G I rd) (jT n d a c J O M G I rd) e T H:=
 bF (aJ _) aN mixed Vq h
def sr (n d a c:Int) (J:Bool) (O M:ByteArray) (G:Bool) (I rd:ByteArray):Prop:=0≤a∧0≤c
def sn (n d a c:Int) (J:Bool) (O M:ByteArray) (G:Bool) (I rd:ByteArray) (r:Int×Int):Prop:=r.1=(Nat.gcd a.natAbs c.natAbs:Nat)
theorem acx (n d:Int) (J:Bool) (O M:ByteArray) (G:Bool) (I rd:ByteArray) (k:Nat):∀ a c:Nat,c=k→∃ r:Int×Int,av Tryz.prog (lb 94 gi) (kL n d a c J O M G I rd) (jT n d a c J O M G I rd) (.exit 0) (kL n d r.1 r.2 J O M G I rd) (jT n d r.1 r.2 J O M G I rd)∧r.1=(Nat.gcd a c:Nat):=by
 induction k using Nat.strongRecOn with
 | _ k a1=>
  intro a c a6
  have U:=ad1 n d a c J O M G I rd
  by_cases Z:c=0
  ·refine ⟨((a:Int),(c:Int)), .last (P9 ?_) (by intro h;cases h),by rw [Z,Nat.gcd_zero_right]⟩
   rw [U,dF (show ¬ (0:Int) < (c:Int) by omega)]
   rfl
  ·have a7:a % c < c:=Nat.mod_lt _ (by omega)
   obtain ⟨r,ab,aE⟩:=a1 (a % c) (by omega) c (a % c) rfl
   refine ⟨r, .more (P9 ?_) ab,by rw [aE,Nat.gcd_comm c,← Nat.gcd_rec,Nat.gcd_comm]⟩
   rw [U,dT (show (0:Int) < (c:Int) by omega),dF (show ¬ (c:Int)=0 by omega)]
   rfl
theorem aaP (n d a c:Int) (J:Bool) (O M:ByteArray) (G:Bool) (I rd:ByteArray) (h:sr n d a c J O M G I rd):∃ r:Int×Int,av Tryz.prog (lb 94 gi) (kL n d a c J O M G I rd) (jT n d a c J O M G I rd) (.exit 0) (kL n d r.1 r.2 J O M G I rd) (jT n d r.1 r.2 J O M G I rd)∧sn n d a c J O M G I rd r:=by
 obtain ⟨U,Z⟩:=h
 obtain ⟨a,rfl⟩:=Int.eq_ofNat_of_zero_le U
 obtain ⟨c,rfl⟩:=Int.eq_ofNat_of_zero_le Z
 obtain ⟨r,k1,ab⟩:=acx n d J O M G I rd c a c rfl
 exact ⟨r,k1,by unfold sn;rw [ab];rfl⟩
def Hw (Z:Int→Int→Int→Int→Bool→ByteArray→ByteArray→Bool→ByteArray→ByteArray→Bool) (U:Int→Int→Int→Int→Bool→ByteArray→ByteArray→Bool→ByteArray→ByteArray→Int×Int) (T:List AV) (H:Hp):Option (Bool×Ex×List AV×Hp):=
 match al T 0,al T 1,al T 4,al T 5,al T 6,al T 7,H with
 | .val (.int .i64 n), .val (.int .i64 d), .ptr 0 0, .ptr 1 0, .val (.int .i64 a), .val (.int .i64 c), [.row (.cells [.val (.bool J), .val (.string O), .val (.string M)]) 27 .live, .row (.cells [.val (.bool G), .val (.string I), .val (.string rd)]) 27 .live]=>bif T.length==41 then some (Z n d a c J O M G I rd, .exit 0,kL n d ((U n d a c J O M G I rd).1) ((U n d a c J O M G I rd).2) J O M G I rd,jT n d ((U n d a c J O M G I rd).1) ((U n d a c J O M G I rd).2) J O M G I rd) else none
 | _,_,_,_,_,_,_=>none
abbrev JM:Type:=Int→Int→Int→Int→Bool→ByteArray→ByteArray→Bool→ByteArray→ByteArray→Bool
abbrev Jd:Type:=Int→Int→Int→Int→Bool→ByteArray→ByteArray→Bool→ByteArray→ByteArray→Int×Int
def Cl (G:JM) (I:Jd) (L:aC):aC:=bp 0 94 gi [0,1,4,5,6,7] (Hw G I) L
def nt (n d a c:Int) (J:Bool) (O M:ByteArray) (G:Bool) (I rd:ByteArray):Int×Int:=Classical.epsilon fun ρ=>av Tryz.prog (lb 94 gi) (kL n d a c J O M G I rd) (jT n d a c J O M G I rd) (.exit 0) (kL n d (ρ.1) (ρ.2) J O M G I rd) (jT n d (ρ.1) (ρ.2) J O M G I rd)∧sn n d a c J O M G I rd ρ
theorem Ep (n d a c:Int) (J:Bool) (O M:ByteArray) (G:Bool) (I rd:ByteArray) (h:sr n d a c J O M G I rd):av Tryz.prog (lb 94 gi) (kL n d a c J O M G I rd) (jT n d a c J O M G I rd) (.exit 0) (kL n d ((nt n d a c J O M G I rd).1) ((nt n d a c J O M G I rd).2) J O M G I rd) (jT n d ((nt n d a c J O M G I rd).1) ((nt n d a c J O M G I rd).2) J O M G I rd)∧sn n d a c J O M G I rd (nt n d a c J O M G I rd):=Classical.epsilon_spec (aaP n d a c J O M G I rd h)
def tP (n d a c:Int) (J:Bool) (O M:ByteArray) (G:Bool) (I rd:ByteArray):Bool:= @decide (sr n d a c J O M G I rd) (Classical.propDecidable _)
theorem Le (n d a c:Int) (J:Bool) (O M:ByteArray) (G:Bool) (I rd:ByteArray) (h:sr n d a c J O M G I rd):tP n d a c J O M G I rd=true:= @decide_eq_true _ (Classical.propDecidable _) h
theorem agr (T:List AV) (H:Hp) (e:Ex) (J:List AV) (I:Hp) (h:Hw tP nt T H=some (true,e,J,I)):V.Ends Tryz.prog false 0 0 (.loop (lb 94 gi)) T H e J I:=by
 unfold Hw at h
 split at h
 ·rename_i n d a c b1 b3 b2 bD b0 rd U Z ab aE a1 a6
  rw [Bool.cond_eq_ite] at h
  split at h
  ·rename_i M
   rw [beq_iff_eq] at M
   simp only [Option.some.injEq,Prod.mk.injEq,Bool.and_eq_true,decide_eq_true_eq] at h
   obtain ⟨k1,rfl,rfl,rfl⟩:=h
   have bx:= @of_decide_eq_true _ (Classical.propDecidable _) k1
   refine Ends.pre (Ep n d a c b1 b3 b2 bD b0 rd bx).1.ends (fun α B w D b4 a7=>bq M (fun p O y G=> ?_) a7)
   simp only [List.mem_cons,List.not_mem_nil,or_false] at O
   rcases O with rfl | rfl | rfl | rfl | rfl | rfl
   ·rw [U] at G;exact G
   ·rw [Z] at G;exact G
   ·rw [ab] at G;exact G
   ·rw [aE] at G;exact G
   ·rw [a1] at G;exact G
   ·rw [a6] at G;exact G
  ·cases h
 ·cases h
theorem Sk {L:aC} (h:aB Tryz.prog L):aB Tryz.prog (Cl tP nt L):=h.bz TL agr
theorem ach (S:Sg) (O:JM) (U:Jd) (n d:Int):letI J:=(IntKind.i64.wrap (0 - n));letI M:=(decide (n < 0));letI G:=(U J d J d false (ByteArray.mk #[]) (ByteArray.mk #[]) M (ByteArray.mk #[]) (ByteArray.mk #[]));letI I:=(U n d n d false (ByteArray.mk #[]) (ByteArray.mk #[]) M (ByteArray.mk #[]) (ByteArray.mk #[]));
  (aF Tryz.prog ⟨aw 126 (Au S) aK,au,Cl O U aq⟩ 10 10 94 [.val (.int .i64 n), .val (.int .i64 d)]=(bif decide (n < 0) then (bif decide (IntKind.i64.wrap (0 - n)=0) then some (.agg [(.val (.bool false)),(.val (.string (ByteArray.mk #[]))),(.val (.string (ByteArray.mk #[])))]) else (bif O J d J d false (ByteArray.mk #[]) (ByteArray.mk #[]) M (ByteArray.mk #[]) (ByteArray.mk #[]) then (bif decide (G.fst=0) then none else (bif ai IntKind.i64 (J.tdiv G.fst) then (bif decide (0≤J.tdiv G.fst)&&decide (J.tdiv G.fst < 72057594037927936) then (bif decide (G.fst=0) then none else (bif ai IntKind.i64 (d.tdiv G.fst) then (bif decide (1 < d.tdiv G.fst) then (bif decide (G.fst=0) then none else (bif ai IntKind.i64 (d.tdiv G.fst) then (bif decide (0≤d.tdiv G.fst)&&decide (d.tdiv G.fst < 72057594037927936) then some (.agg [(.val (.bool M)),(.val (.string (S.mg (J.tdiv G.fst).toNat))),(.val (.string (S.mg (d.tdiv G.fst).toNat)))]) else none) else none)) else some (.agg [(.val (.bool M)),(.val (.string (S.mg (J.tdiv G.fst).toNat))),(.val (.string (ByteArray.mk #[])))])) else none)) else none) else none)) else none)) else (bif decide (n=0) then some (.agg [(.val (.bool false)),(.val (.string (ByteArray.mk #[]))),(.val (.string (ByteArray.mk #[])))]) else (bif O n d n d false (ByteArray.mk #[]) (ByteArray.mk #[]) M (ByteArray.mk #[]) (ByteArray.mk #[]) then (bif decide (I.fst=0) then none else (bif ai IntKind.i64 (n.tdiv I.fst) then (bif decide (0≤n.tdiv I.fst)&&decide (n.tdiv I.fst < 72057594037927936) then (bif decide (I.fst=0) then none else (bif ai IntKind.i64 (d.tdiv I.fst) then (bif decide (1 < d.tdiv I.fst) then (bif decide (I.fst=0) then none else (bif ai IntKind.i64 (d.tdiv I.fst) then (bif decide (0≤d.tdiv I.fst)&&decide (d.tdiv I.fst < 72057594037927936) then some (.agg [(.val (.bool M)),(.val (.string (S.mg (n.tdiv I.fst).toNat))),(.val (.string (S.mg (d.tdiv I.fst).toNat)))]) else none) else none)) else some (.agg [(.val (.bool M)),(.val (.string (S.mg (n.tdiv I.fst).toNat))),(.val (.string (ByteArray.mk #[])))])) else none)) else none) else none)) else none)))):=by kernel_rfl
def wY (S:Sg):FuncId→TF:=aw 102 (kV S) (aw 124 (kW S) aK)
theorem aeb (S:Sg) (b:Bool) (n d:ByteArray):aF Tryz.prog ⟨wY S,au,aq⟩ 10 10 90 [.agg [.val (.bool b), .val (.string n), .val (.string d)]]=
  (bif S.ok n&&S.ok (ByteArray.mk #[]) then (bif S.ok d&&S.ok (ByteArray.mk #[]) then (bif aG (S.ms (S.val false d+S.val false (ByteArray.mk #[]))) (ByteArray.mk #[]) then some (.tup [(.agg [(.val (.bool (S.ng (S.val b n+S.val false (ByteArray.mk #[]))))),(.val (.string (S.ms (S.val b n+S.val false (ByteArray.mk #[])))))]),(.agg [(.val (.bool (S.ng (1:Int)))),(.val (.string (S.ms (1:Int))))])]) else some (.tup [(.agg [(.val (.bool (S.ng (S.val b n+S.val false (ByteArray.mk #[]))))),(.val (.string (S.ms (S.val b n+S.val false (ByteArray.mk #[])))))]),(.agg [(.val (.bool (S.ng (S.val false d+S.val false (ByteArray.mk #[]))))),(.val (.string (S.ms (S.val false d+S.val false (ByteArray.mk #[])))))])])) else none) else none):=by kernel_rfl
def A4 (S:Sg) (X:Xg):FuncId→TF:=aw 127 (lH S) (aw 128 (An S X) (aw 129 (Ak S X) (wY S)))
theorem adp (S:Sg) (X:Xg) (b c:Bool) (s t:ByteArray):letI I:=(S.val b s+S.val false (ByteArray.mk #[]));letI U:=(-S.val (S.ng I) (S.ms I));letI G:=(S.val c t+S.val false (ByteArray.mk #[]));letI O:=(-S.val (S.ng G) (S.ms G));letI J:=(X.gcd (S.val (S.ng U) (S.ms U)) (S.val (S.ng O) (S.ms O)));letI M:=(X.gcd (S.val (S.ng I) (S.ms I)) (S.val (S.ng G) (S.ms G)));letI Z:=(X.dq (S.val (S.ng U) (S.ms U)) (S.val (S.ng J) (S.ms J)));letI ab:=(X.dq (S.val (S.ng I) (S.ms I)) (S.val (S.ng M) (S.ms M)));
  (aF Tryz.prog ⟨A4 S X,au,aq⟩ 10 10 95 [.agg [.val (.bool b), .val (.string s)], .agg [.val (.bool c), .val (.string t)]]=(bif S.ok s&&S.ok (ByteArray.mk #[]) then (bif S.ok t&&S.ok (ByteArray.mk #[]) then (bif aG (S.ms I) (ByteArray.mk #[]) then some (.agg [(.val (.bool false)),(.val (.string (ByteArray.mk #[]))),(.val (.string (ByteArray.mk #[])))]) else (bif S.ng G then (bif S.ok (S.ms I) then (bif S.ok (S.ms G) then (bif X.cN (S.ms U)&&X.cN (S.ms O) then (bif X.cN (S.ms U)&&X.cN (S.ms J) then (bif X.cN (S.ms O)&&X.cN (S.ms J) then (bif !aG (S.ms (X.dq (S.val (S.ng O) (S.ms O)) (S.val (S.ng J) (S.ms J)))) (ByteArray.mk #[(1:UInt8)]) then some (.agg [(.val (.bool (S.ng Z))),(.val (.string (S.ms Z))),(.val (.string (S.ms (X.dq (S.val (S.ng O) (S.ms O)) (S.val (S.ng J) (S.ms J))))))]) else some (.agg [(.val (.bool (S.ng Z))),(.val (.string (S.ms Z))),(.val (.string (ByteArray.mk #[])))])) else none) else none) else none) else none) else none) else (bif X.cN (S.ms I)&&X.cN (S.ms G) then (bif X.cN (S.ms I)&&X.cN (S.ms M) then (bif X.cN (S.ms G)&&X.cN (S.ms M) then (bif !aG (S.ms (X.dq (S.val (S.ng G) (S.ms G)) (S.val (S.ng M) (S.ms M)))) (ByteArray.mk #[(1:UInt8)]) then some (.agg [(.val (.bool (S.ng ab))),(.val (.string (S.ms ab))),(.val (.string (S.ms (X.dq (S.val (S.ng G) (S.ms G)) (S.val (S.ng M) (S.ms M))))))]) else some (.agg [(.val (.bool (S.ng ab))),(.val (.string (S.ms ab))),(.val (.string (ByteArray.mk #[])))])) else none) else none) else none))) else none) else none)):=by kernel_rfl
def wX (S:Sg) (X:Xg) (G:Qg):FuncId→TF:=aw 93 (qJ G) (aw 94 (qM G) (aw 90 (wK S G) (aw 95 (wM S X G) aK)))
theorem abL (S:Sg) (X:Xg) (G:Qg) (b:Bool) (n d:ByteArray):aF Tryz.prog ⟨wX S X G,au,aq⟩ 10 10 100 [.agg [.val (.bool b), .val (.string n), .val (.string d)]]=
  (bif G.ms n d then (bif j7 (G.mn b n d)&&j7 (G.md n d)&&decide (0 < G.md n d) then some (.agg [(.val (.bool (G.qn (G.fr (G.mn b n d) (G.md n d))))),(.val (.string (G.qs (G.fr (G.mn b n d) (G.md n d))))),(.val (.string (G.qd (G.fr (G.mn b n d) (G.md n d)))))]) else none) else (bif G.aV n d then (bif X.cN (S.ms (S.val b n))&&X.cN (S.ms (S.val false (G.fd d)))&& !decide (S.val (S.ng (S.val false (G.fd d))) (S.ms (S.val false (G.fd d)))=0) then some (.agg [(.val (.bool (G.qn (G.fr (S.val (S.ng (S.val b n)) (S.ms (S.val b n))) (S.val (S.ng (S.val false (G.fd d))) (S.ms (S.val false (G.fd d)))))))),(.val (.string (G.qs (G.fr (S.val (S.ng (S.val b n)) (S.ms (S.val b n))) (S.val (S.ng (S.val false (G.fd d))) (S.ms (S.val false (G.fd d)))))))),(.val (.string (G.qd (G.fr (S.val (S.ng (S.val b n)) (S.ms (S.val b n))) (S.val (S.ng (S.val false (G.fd d))) (S.ms (S.val false (G.fd d))))))))]) else none) else none)):=by kernel_rfl
def A5 (S:Sg) (X:Xg) (G:Qg):FuncId→TF:=aw 95 (wM S X G) (aw 124 (kW S) (aw 97 (oT S) (aw 100 (Aw G) (aw 90 (wK S G) aK))))
theorem aec (S:Sg) (X:Xg) (G:Qg) (b:Bool) (n d:ByteArray):aF Tryz.prog ⟨A5 S X G,au,aq⟩ 10 10 51 [.agg [.val (.bool b), .val (.string n), .val (.string d)]]=
  (bif G.aV n d then (bif bif true then !(G.qn (G.qv b n d)==b&&(aG (G.qs (G.qv b n d)) n&&(aG (G.qd (G.qv b n d)) d&&true))) else G.qn (G.qv b n d)==b&&(aG (G.qs (G.qv b n d)) n&&(aG (G.qd (G.qv b n d)) d&&true)) then some (.val (.int .i64 1)) else some (.val (.int .i64 0))) else none):=by kernel_rfl
end
end Go.Proofs.YtamcpiicmfielaaGreat.L
namespace Go.Proofs.YtamcpiicmfielaaGreat.L
open Go Go.V Go.RowKit Go.Proofs.YtamcpiicmfielaaGreat.Sp Go.Proofs.YtamcpiicmfielaaGreat.F
open Go.Proofs (Tryz.prog)
noncomputable section
theorem LA:Entry Tryz.prog 94 (qM af):=by
 refine bg (E:= ⟨aw 126 (Au aa) aK,au,Cl tP nt aq⟩) (u:=10) (d:=10) ((aJ _).add X5) (Sk aB.none).ok mixed (by kernel_rfl) (fun args r h=> ?_)
 unfold qM at h
 split at h
 ·rename_i n d
  simp only [Option.some.injEq,Prod.mk.injEq,Bool.and_eq_true,decide_eq_true_eq] at h
  obtain ⟨⟨⟨b0,b1⟩,a7⟩,rfl⟩:=h
  have b4:=yY b0
  have b5:=yY b1
  have G:=ach aa tP nt n d
  have b3:IntKind.i64.wrap (0 - n)= -n:=by rw [IntKind.wrap_i64];omega
  have b6:0 < Nat.gcd n.natAbs d.natAbs:=Nat.gcd_pos_of_pos_right _ (by omega)
  have l1:=Nat.div_le_self n.natAbs (Nat.gcd n.natAbs d.natAbs)
  have l2:=Nat.div_le_self d.natAbs (Nat.gcd n.natAbs d.natAbs)
  obtain ⟨bD,_,Z,ab⟩:=yC n a7
  have b2:af.fr n d=Rat.divInt n d:=rfl
  have M:af.qn (Rat.divInt n d)=decide (n < 0):=by
   have:af.qn (Rat.divInt n d)=aa.ng (Rat.divInt n d).num:=rfl
   rw [this,dm]
   refine decide_eq_decide.2 ?_
   rw [bD,Int.ediv_lt_iff_lt_mul (Ih n a7),Int.zero_mul]
  have bx:Int.tdiv d ((Nat.gcd n.natAbs d.natAbs:Nat):Int)=((d.natAbs / Nat.gcd n.natAbs d.natAbs:Nat):Int):=by
   obtain ⟨m,rfl⟩:=Int.eq_ofNat_of_zero_le (show 0≤d by omega)
   rfl
  have I:=zL (Rat.divInt n d)
  have b7:=(Rat.divInt n d).den_pos
  rw [b3] at G
  rw [b2]
  by_cases aE:n < 0
  ·have U:sr (-n) d (-n) d false (ByteArray.mk #[]) (ByteArray.mk #[]) (decide (n < 0)) (ByteArray.mk #[]) (ByteArray.mk #[]):= ⟨by omega,by omega⟩
   obtain ⟨_,J⟩:=Ep _ _ _ _ _ _ _ _ _ _ U
   unfold sn at J
   rw [Int.natAbs_neg] at J
   have a6:Int.tdiv (-n) ((Nat.gcd n.natAbs d.natAbs:Nat):Int)=((n.natAbs / Nat.gcd n.natAbs d.natAbs:Nat):Int):=by
    have: -n=((n.natAbs:Nat):Int):=by omega
    rw [this];rfl
   rw [Le _ _ _ _ _ _ _ _ _ _ U,J,a6,bx,← Z,← ab,dF (show ¬ -n=0 by omega),dF (show ¬ ((Nat.gcd n.natAbs d.natAbs:Nat):Int)=0 by omega)] at G
   rw [← Z] at l1
   rw [← ab] at l2
   rw [aM (z:=(((Rat.divInt n d).num.natAbs:Nat):Int)) (by omega),dT (show (0:Int)≤(((Rat.divInt n d).num.natAbs:Nat):Int) by omega),dT (show (((Rat.divInt n d).num.natAbs:Nat):Int) < 72057594037927936 by omega),aM (z:=(((Rat.divInt n d).den:Nat):Int)) (by omega),dT (show (0:Int)≤(((Rat.divInt n d).den:Nat):Int) by omega),dT (show (((Rat.divInt n d).den:Nat):Int) < 72057594037927936 by omega),Int.toNat_natCast,Int.toNat_natCast] at G
   rw [dT aE,cond_true] at G
   rw [dT aE] at M
   rw [G]
   by_cases O:(Rat.divInt n d).den=1
   ·rw [if_pos O] at I
    rw [dF (show ¬ (1:Int) < (((Rat.divInt n d).den:Nat):Int) by omega)]
    unfold Qg.rat
    rw [I,M];rfl
   ·rw [if_neg O] at I
    rw [dT (show (1:Int) < (((Rat.divInt n d).den:Nat):Int) by omega)]
    unfold Qg.rat
    rw [I,M];rfl
  ·rw [dF aE,cond_false] at G
   rw [dF aE] at M
   by_cases a1:n=0
   ·rw [dT a1] at G
    rw [G,a1,Rat.zero_divInt,we];rfl
   ·have U:sr n d n d false (ByteArray.mk #[]) (ByteArray.mk #[]) false (ByteArray.mk #[]) (ByteArray.mk #[]):= ⟨by omega,by omega⟩
    obtain ⟨_,J⟩:=Ep _ _ _ _ _ _ _ _ _ _ U
    unfold sn at J
    have a6:Int.tdiv n ((Nat.gcd n.natAbs d.natAbs:Nat):Int)=((n.natAbs / Nat.gcd n.natAbs d.natAbs:Nat):Int):=by
     have:n=((n.natAbs:Nat):Int):=by omega
     rw [this];rfl
    rw [Le _ _ _ _ _ _ _ _ _ _ U,J,a6,bx,← Z,← ab,dF a1,dF (show ¬ ((Nat.gcd n.natAbs d.natAbs:Nat):Int)=0 by omega)] at G
    rw [← Z] at l1
    rw [← ab] at l2
    rw [aM (z:=(((Rat.divInt n d).num.natAbs:Nat):Int)) (by omega),dT (show (0:Int)≤(((Rat.divInt n d).num.natAbs:Nat):Int) by omega),dT (show (((Rat.divInt n d).num.natAbs:Nat):Int) < 72057594037927936 by omega),aM (z:=(((Rat.divInt n d).den:Nat):Int)) (by omega),dT (show (0:Int)≤(((Rat.divInt n d).den:Nat):Int) by omega),dT (show (((Rat.divInt n d).den:Nat):Int) < 72057594037927936 by omega),Int.toNat_natCast,Int.toNat_natCast] at G
    rw [G]
    by_cases O:(Rat.divInt n d).den=1
    ·rw [if_pos O] at I
     rw [dF (show ¬ (1:Int) < (((Rat.divInt n d).den:Nat):Int) by omega)]
     unfold Qg.rat
     rw [I,M];rfl
    ·rw [if_neg O] at I
     rw [dT (show (1:Int) < (((Rat.divInt n d).den:Nat):Int) by omega)]
     unfold Qg.rat
     rw [I,M];rfl
 ·cases h
theorem Ix:bf Tryz.prog (wY aa):=((aJ _).add uk).add Dc
theorem okS (n d:ByteArray) (h:af.aV n d=true):aa.ok n=true∧aa.ok d=true:=by
 obtain ⟨G,I⟩:=zM h
 exact ⟨p9 (by omega),p9 (by omega)⟩
theorem Dh:Entry Tryz.prog 90 (wK aa af):=by
 refine bg (E:= ⟨wY aa,au,aq⟩) (u:=10) (d:=10) Ix aN mixed (by kernel_rfl) (fun args r h=> ?_)
 unfold wK nM at h
 split at h
 ·rename_i b n d
  simp only [Option.some.injEq,Prod.mk.injEq] at h
  obtain ⟨J,rfl⟩:=h
  obtain ⟨k1,M⟩:=okS n d J
  have I:aa.val false d=(vS d:Nat):=rfl
  rw [aeb]
  simp only [AN,Int.add_zero,uO]
  rw [k1,M,y9,mD]
  unfold dn
  by_cases G:vS d=0
  ·rw [dT (show aa.val false d=0 by rw [I,G];rfl),if_pos G];rfl
  ·rw [dF (show ¬ aa.val false d=0 by rw [I];omega),if_neg G,← I];rfl
 ·cases h
theorem Rk (s:ByteArray):bd.cN s=decide (s.size≤68719476736):=of_eq_true (eq_true rfl)
theorem oD {z:Int} (h:bs z.natAbs≤68719476736):bd.cN (aa.ms z)=true:=by rw [Rk,wv];exact decide_eq_true h
theorem NF {s:ByteArray} (h:bd.cN s=true):s.size≤68719476736:=by rw [Rk,decide_eq_true_eq] at h;exact h
theorem X8:Entry Tryz.prog 128 (An aa bd):=X9 bd rfl rfl
theorem X6:Entry Tryz.prog 129 (Ak aa bd):=X7 bd rfl rfl rfl rfl
theorem Rz:bf Tryz.prog (A4 aa bd):=((Ix.add X6).add X8).add Df
theorem No {n:Nat} :aG (aa.ms (n:Int)) (ByteArray.mk #[(1:UInt8)])=decide (n=1):=by
 have e:ByteArray.mk #[(1:UInt8)]=aA 1:=(uL (ByteArray.mk #[(1:UInt8)]) (by show ¬ (1:UInt8)=0;decide)).symm
 rw [e,oQ]
 refine decide_eq_decide.2 ?_
 have G:aa.ms (n:Int)=aA n:=rfl
 rw [G]
 constructor
 ·intro h
  have:=congrArg vS h
  rwa [jC,jC] at this
 ·intro h;rw [h]
theorem Di:Entry Tryz.prog 95 (wM aa bd af):=by
 refine bg (E:= ⟨A4 aa bd,au,aq⟩) (u:=10) (d:=10) Rz aN mixed (by kernel_rfl) (fun args r h=> ?_)
 unfold wM at h
 split at h
 ·rename_i b s c t
  simp only [Option.some.injEq,Prod.mk.injEq,Bool.and_eq_true,Bool.not_eq_true',decide_eq_false_iff_not] at h
  obtain ⟨⟨⟨Z,ab⟩,a7⟩,rfl⟩:=h
  have z1:=NF Z
  have z2:=NF ab
  have k1:=dK b s
  have bx:=dK c t
  have O:=adp aa bd b c s t
  simp only [eX,AN,Int.add_zero,uO,Rj,Ie] at O
  rw [O]
  clear O
  generalize aa.val b s=x at*
  generalize aa.val c t=y at*
  have bD:=xC x
  have b0:=xC y
  have a1:=CI x y
  have a6:=CI (-x) (-y)
  have aE:af.fr x y=Rat.divInt x y:=rfl
  rw [p9 (s:=s) (by omega),p9 (s:=t) (by omega),y9,bW (z:=x) (by omega),bW (z:=y) (by omega),oD (z:=x) (by omega),oD (z:=y) (by omega),oD (z:= -x) (by omega),oD (z:= -y) (by omega),oD (z:=zg x y) (by omega),oD (z:=zg (-x) (-y)) (by omega),aE]
  by_cases M:x=0
  ·rw [dT M,M,Rat.zero_divInt,we];rfl
  ·rw [dF M,dm y]
   have I:=zL (Rat.divInt x y)
   by_cases U:y < 0
   ·obtain ⟨e1,J⟩:=Ii (-x) (show 0 < -y by omega)
    rw [Rat.neg_divInt_neg] at e1 J
    rw [dT U,e1,J,No]
    by_cases G:(Rat.divInt x y).den=1
    ·rw [if_pos G] at I
     rw [dT G]
     unfold Qg.rat
     rw [I];rfl
    ·rw [if_neg G] at I
     rw [dF G]
     unfold Qg.rat
     rw [I];rfl
   ·obtain ⟨e1,J⟩:=Ii x (show 0 < y by omega)
    rw [dF U,e1,J,No]
    by_cases G:(Rat.divInt x y).den=1
    ·rw [if_pos G] at I
     rw [dT G]
     unfold Qg.rat
     rw [I];rfl
    ·rw [if_neg G] at I
     rw [dF G]
     unfold Qg.rat
     rw [I];rfl
 ·cases h
theorem RB:bf Tryz.prog (wX aa bd af):=((((aJ _).add Di).add Dh).add LA).add LD
theorem Lz:Entry Tryz.prog 100 (Aw af):=by
 refine bg (E:= ⟨wX aa bd af,au,aq⟩) (u:=10) (d:=10) RB aN mixed (by kernel_rfl) (fun args r h=> ?_)
 unfold Aw nM at h
 split at h
 ·rename_i b n d
  simp only [Option.some.injEq,Prod.mk.injEq] at h
  obtain ⟨I,rfl⟩:=h
  obtain ⟨z1,z2⟩:=zM I
  have k1:=dK b n
  have a6:=rf d
  have p1:=fU d
  have G:=abL aa bd af b n d
  have Z:∀ x y,af.fr x y=Rat.divInt x y:=fun x y=>rfl
  simp only [eX,mD,Z] at G
  have J:Rat.divInt (aa.val b n) (dn d)=af.qv b n d:=rfl
  rw [I,J,oD (z:=aa.val b n) (by omega),oD (z:=dn d) (by omega),dF (show ¬ dn d=0 by omega)] at G
  have U:∀ u:Bool,(u=true→af.ms n d=true)→af.ms n d=u→aF Tryz.prog ⟨wX aa bd af,au,aq⟩ 10 10 100 [.agg [.val (.bool b), .val (.string n), .val (.string d)]]=some (af.rat (af.qv b n d)):=by
   intro u ab O
   rw [G,O]
   cases u
   ·rfl
   ·obtain ⟨_,_,e1,M,aE,a1⟩:=mW (ab rfl) b
    rw [e1,M,rR (z:=aa.val b n) (by omega),rR (z:=dn d) (by omega),dT p1,J]
    rfl
  exact U _ id rfl
 ·cases h
theorem RA:bf Tryz.prog (A5 aa bd af):=(((((aJ _).add Dh).add Lz).add Ly).add uk).add Di
theorem LB:Entry Tryz.prog 51 (nM af fun b n d=> .val (.int .i64 (af.ck b n d))):=by
 refine bg (E:= ⟨A5 aa bd af,au,aq⟩) (u:=10) (d:=10) RA aN mixed (by kernel_rfl) (fun args r h=> ?_)
 unfold nM at h
 split at h
 ·rename_i b n d
  simp only [Option.some.injEq,Prod.mk.injEq] at h
  obtain ⟨I,rfl⟩:=h
  rw [aec,I]
  have J:af.ck b n d=bif (b==af.qn (af.qv b n d))&&aG n (af.qs (af.qv b n d))&&aG d (af.qd (af.qv b n d)) then 0 else 1:=rfl
  have G:∀ s t:ByteArray,aG s t=aG t s:=fun s t=>by unfold aG;exact Bool.beq_comm
  rw [J,G n,G d,show (b==af.qn (af.qv b n d))=(af.qn (af.qv b n d)==b) from Bool.beq_comm]
  generalize (af.qn (af.qv b n d)==b)=M
  generalize aG (af.qs (af.qv b n d)) n=O
  generalize aG (af.qd (af.qv b n d)) d=U
  cases M <;> cases O <;> cases U <;> rfl
 ·cases h
end
end Go.Proofs.YtamcpiicmfielaaGreat.L
namespace Go.Proofs.YtamcpiicmfielaaGreat.L
open Go Go.V Go.RowKit Go.Proofs.YtamcpiicmfielaaGreat.Sp Go.Proofs.YtamcpiicmfielaaGreat.F
open Go.Proofs (Tryz.prog)
noncomputable section
def wW (S:Sg) (X:Xg) (G:Qg):FuncId→TF:=aw 93 (qJ G) (aw 94 (qM G) (aw 90 (wK S G) (aw 95 (wM S X G) (aw 102 (kV S) (aw 96 (sQ S) (aw 97 (oT S) (aw 100 (Aw G) aK)))))))
theorem Ry:bf Tryz.prog (wW aa bd af):=((((((((aJ _).add Lz).add Ly).add Yh).add Dc).add Di).add Dh).add LA).add LD
theorem ade (S:Sg) (X:Xg) (G:Qg) (b c:Bool) (n d m e:ByteArray):letI I:=(S.val (S.ng (S.val b n)) (S.ms (S.val b n))*S.val (S.ng (S.val false (G.fd e))) (S.ms (S.val false (G.fd e))));letI J:=(S.val (S.ng (S.val c m)) (S.ms (S.val c m))*S.val (S.ng (S.val false (G.fd d))) (S.ms (S.val false (G.fd d))));letI M:Option AV:=(bif G.aV n d then (bif G.aV m e then (bif S.ok (S.ms (S.val b n))&&S.ok (S.ms (S.val false (G.fd e))) then (bif S.ok (S.ms (S.val c m))&&S.ok (S.ms (S.val false (G.fd d))) then (bif S.ok (S.ms I)&&S.ok (S.ms J) then some (.val (.int .i64 (S.fT (S.val (S.ng I) (S.ms I)) (S.val (S.ng J) (S.ms J))))) else none) else none) else none) else none) else none);
  (aF Tryz.prog ⟨wW S X G,au,aq⟩ 10 10 48 [.agg [.val (.bool b), .val (.string n), .val (.string d)], .agg [.val (.bool c), .val (.string m), .val (.string e)]]=(bif G.ms n d then (bif G.ms m e then (bif ai IntKind.i64 (G.mn b n d*G.md m e) then (bif ai IntKind.i64 (G.mn c m e*G.md n d) then (bif decide (G.mn b n d*G.md m e < G.mn c m e*G.md n d) then some (.val (.int .i64 (-1))) else (bif ai IntKind.i64 (G.mn b n d*G.md m e) then (bif ai IntKind.i64 (G.mn c m e*G.md n d) then (bif decide (G.mn c m e*G.md n d < G.mn b n d*G.md m e) then some (.val (.int .i64 1)) else some (.val (.int .i64 0))) else none) else none)) else none) else none) else M) else M)):=by kernel_rfl
end
end Go.Proofs.YtamcpiicmfielaaGreat.L
namespace Go.Proofs.YtamcpiicmfielaaGreat.L
open Go Go.V Go.RowKit Go.Proofs.YtamcpiicmfielaaGreat.Sp Go.Proofs.YtamcpiicmfielaaGreat.F
open Go.Proofs (Tryz.prog)
noncomputable section
theorem ag2 {n d m e:ByteArray} (G:af.aV n d=true) (I:af.aV m e=true):∀ (b c:Bool),
  bs (aa.val b n).natAbs≤1073741824∧bs (aa.val c m).natAbs≤1073741824∧bs (dn d).natAbs≤1073741824∧bs (dn e).natAbs≤1073741824:=by
 intro b c
 obtain ⟨z1,z2⟩:=zM G
 obtain ⟨z3,z4⟩:=zM I
 have J:=dK b n
 have M:=dK c m
 have O:=rf d
 have U:=rf e
 exact ⟨by omega,by omega,by omega,by omega⟩
def oU (G:Qg):TF:=QO G fun x y=> .val (.int .i64 (G.cq x y))
theorem ru:Entry Tryz.prog 48 (oU af):=by
 refine bg (E:= ⟨wW aa bd af,au,aq⟩) (u:=10) (d:=10) Ry aN mixed (by kernel_rfl) (fun args r h=> ?_)
 unfold oU QO at h
 split at h
 ·rename_i b n d c m e
  simp only [Option.some.injEq,Prod.mk.injEq,Bool.and_eq_true] at h
  obtain ⟨⟨M,O⟩,rfl⟩:=h
  have J:=ade aa bd af b c n d m e
  obtain ⟨b5,b6,b7,ch⟩:=ag2 M O b c
  have p1:=fU d
  have p2:=fU e
  have U:af.cq (af.qv b n d) (af.qv c m e)=cR (aa.val b n*dn e) (aa.val c m*dn d):=C1 _ _ p1 p2
  have q1:=lg (aa.val b n) (dn e)
  have q2:=lg (aa.val c m) (dn d)
  simp only [eX,mD] at J
  rw [M,O,bW (z:=aa.val b n) (by omega),bW (z:=aa.val c m) (by omega),bW (z:=dn d) (by omega),bW (z:=dn e) (by omega),bW (z:=aa.val b n*dn e) (by omega),bW (z:=aa.val c m*dn d) (by omega)] at J
  have b2:aa.fT (aa.val b n*dn e) (aa.val c m*dn d)=af.cq (af.qv b n d) (af.qv c m e):=U.symm
  rw [b2] at J
  have bD:∀ u v:Bool,(u=true→af.ms n d=true)→(v=true→af.ms m e=true)→af.ms n d=u→af.ms m e=v→aF Tryz.prog ⟨wW aa bd af,au,aq⟩ 10 10 48 [.agg [.val (.bool b), .val (.string n), .val (.string d)], .agg [.val (.bool c), .val (.string m), .val (.string e)]]=some (.val (.int .i64 (af.cq (af.qv b n d) (af.qv c m e)))):=by
   intro u v b0 b1 a7 bx
   rw [J,a7,bx]
   cases u
   ·rfl
   ·cases v
    ·rfl
    ·obtain ⟨_,_,e1,aE,Z,b3⟩:=mW (b0 rfl) b
     obtain ⟨_,_,a1,a6,ab,b4⟩:=mW (b1 rfl) c
     rw [e1,aE,a1,a6]
     have ct:=mX (x:=aa.val b n) (y:=dn e) Z (by omega)
     have c0:=mX (x:=aa.val c m) (y:=dn d) ab (by omega)
     rw [aM (z:=aa.val b n*dn e) (by omega),aM (z:=aa.val c m*dn d) (by omega),U]
     unfold cR
     by_cases G:aa.val b n*dn e < aa.val c m*dn d
     ·rw [dT G,if_pos G];rfl
     ·rw [dF G,if_neg G]
      by_cases I:aa.val c m*dn d < aa.val b n*dn e
      ·rw [dT I,if_pos I];rfl
      ·rw [dF I,if_neg I];rfl
  exact bD _ _ id id rfl rfl
 ·cases h
end
end Go.Proofs.YtamcpiicmfielaaGreat.L
