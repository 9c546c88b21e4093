import Derived.Test.YtamcpiicmfielaaGreatZQA
import Derived.Test.YtamcpiicmfielaaGreatZNB
import Derived.Test.YtamcpiicmfielaaGreatZNA
import Derived.Test.YtamcpiicmfielaaGreatZQB
set_option linter.unusedVariables false
set_option linter.unusedSimpArgs false
namespace Go.Proofs.YtamcpiicmfielaaGreat.L
open Go Go.V Go.RowKit Go.Proofs.YtamcpiicmfielaaGreat.Sp Go.Proofs.YtamcpiicmfielaaGreat.F
open Go.Proofs (Tryz.prog)
noncomputable section
def nk (G:Qg) (f:Bool→ByteArray→ByteArray→AV):TF:=fun args=>match args with | [.agg [.val (.bool b), .val (.string n), .val (.string d)]]=>some (G.br n d,f b n d) | _=>none
def O3 (G:Qg) (f:Rat→Rat→AV):TF:=fun args=>match args with | [.agg [.val (.bool b), .val (.string n), .val (.string d)], .agg [.val (.bool c), .val (.string m), .val (.string e)]]=>some (G.br n d&&G.br m e,f (G.qv b n d) (G.qv c m e)) | _=>none
def vT (S:Sg) (G:Qg):TF:=nk G fun b n d=> .tup [S.int (S.val b n),S.int (S.val false (G.fd d))]
def vV (S:Sg) (X:Xg) (G:Qg):TF:=fun args=>match args with | [.agg [.val (.bool b), .val (.string s)], .agg [.val (.bool c), .val (.string t)]]=>some (X.cL s&&X.cL t&& !decide (S.val c t=0),G.rat (G.fr (S.val b s) (S.val c t))) | _=>none
def zF (S:Sg):TF:=fun args=>match args with | [.val (.int .i64 n)]=>some (decide (0≤n)&&decide (n < 72057594037927936), .val (.string (S.mg n.toNat))) | _=>none
def zH (G:Qg):TF:=nk G fun b n d=>G.rat (G.qv b n d)
abbrev fX:List Bool:= [false,true,false,true,true]
def j9 (s:ByteArray) (v i:Int):List AV:=ao 19 [(0, .val (.string s)),(3, .val (.int .i64 v)),(4, .val (.int .i64 i))]
def jy (s:ByteArray) (v i:Int):Hp:= []
theorem RD:aI Tryz.prog 125 fX=some (.loop (lb 125 fX)):=by kernel_rfl
theorem Tm:aI Tryz.prog 125 (false :: fX)=some (lb 125 fX):=by kernel_rfl
theorem Nu (s:ByteArray) (v i:Int):aP Tryz.prog bg 125 [0,3,4] (lb 125 fX) (false :: fX) (j9 s v i) (jy s v i)=
  (bif decide (i < (↑s.size:Int)) then (bif ah IntKind.i64 (256*v) then (bif decide (0≤i)&&decide (i < (↑s.size:Int)) then (bif ah IntKind.i64 (aT s i.toNat) then (bif ah IntKind.i64 (256*v+aT s i.toNat) then (bif ah IntKind.i64 (i+1) then some (.normal,ao 19 [(0,(.val (.string s))),(3,(.val (.int .i64 (256*v+aT s i.toNat)))),(4,(.val (.int .i64 (i+1))))], []) else none) else none) else none) else none) else none) else some ((.exit 0),ao 19 [(0,(.val (.string s))),(3,(.val (.int .i64 v))),(4,(.val (.int .i64 i)))], [])):=by kernel_rfl
theorem Om {s:ByteArray} {v i:Int} {e:Ex} {T:List AV} {H:Hp} (h:aP Tryz.prog bg 125 [0,3,4] (lb 125 fX) (false :: fX) (j9 s v i) (jy s v i)=some (e,T,H)):V.Ends Tryz.prog false 0 0 (lb 125 fX) (j9 s v i) (jy s v i) e T H:=
 bK (aK _) aO mixed Tm h
def uN (s:ByteArray) (v i:Int):Prop:=s.size≤3∧v=0∧i=0
def DA (s:ByteArray) (v i:Int) (r:Int×Int):Prop:=r.1=(vS s:Nat)
theorem Zn (s:ByteArray) (ab:s.size≤3) (d:Nat):∀ i:Nat,i+d=s.size→∃ r:Int×Int,aA Tryz.prog (lb 125 fX) (j9 s (vB (s.data.toList.take i):Nat) i) (jy s (vB (s.data.toList.take i):Nat) i) (.exit 0) (j9 s r.1 r.2) (jy s r.1 r.2)∧r.1=(vS s:Nat):=by
 induction d with
 | zero=>
  intro i hi
  have O:i=s.size:=by omega
  subst O
  have e:s.data.toList.take s.size=s.data.toList:=List.take_of_length_le (by rw [Array.length_toList];exact Nat.le_refl _)
  refine ⟨((vB (s.data.toList.take s.size):Nat),(s.size:Int)), .last (Om ?_) (by intro h;cases h),by rw [e];rfl⟩
  rw [Nu,dF (show ¬ ((s.size:Int) < s.size) by omega)]
  rfl
 | succ d Z=>
  intro i hi
  obtain ⟨r,J,M⟩:=Z (i+1) (by omega)
  refine ⟨r, .more (Om ?_) J,M⟩
  rw [Nu]
  have hb:=lj s i
  have U:=qa s i (by omega)
  have I:=GI s.data.toList (i+1)
  have I:vB (s.data.toList.take (i+1))≤vS s:=I
  have aE:=qc (s:=s) (by omega)
  obtain ⟨c,G⟩:∃ c:Nat,aT s i=c:= ⟨(aT s i).toNat,by omega⟩
  rw [G] at hb U
  have e:((vB (s.data.toList.take (i+1)):Nat):Int)=256*((vB (s.data.toList.take i):Nat):Int)+(c:Int):=by omega
  rw [Int.toNat_natCast,G,aJ (z:=256*((vB (s.data.toList.take i):Nat):Int)) (by omega),aJ (z:=(c:Int)) (by omega),aJ (z:=256*((vB (s.data.toList.take i):Nat):Int)+(c:Int)) (by omega),aJ (z:=(i:Int)+1) (by omega),dT (show (i:Int) < s.size by omega),dT (show (0:Int)≤(i:Int) by omega)]
  rw [e]
  rfl
theorem Yt (s:ByteArray) (v i:Int) (h:uN s v i):∃ r:Int×Int,aA Tryz.prog (lb 125 fX) (j9 s v i) (jy s v i) (.exit 0) (j9 s r.1 r.2) (jy s r.1 r.2)∧DA s v i r:=by
 obtain ⟨G,rfl,rfl⟩:=h
 exact Zn s G s.size 0 (by omega)
def F9 (I:ByteArray→Int→Int→Bool) (G:ByteArray→Int→Int→Int×Int) (T:List AV) (H:Hp):Option (Bool×Ex×List AV×Hp):=
 match al T 0,al T 3,al T 4,H with
 | .val (.string s), .val (.int .i64 v), .val (.int .i64 i), []=>bif T.length==19 then some (I s v i, .exit 0,j9 s ((G s v i).1) ((G s v i).2),jy s ((G s v i).1) ((G s v i).2)) else none
 | _,_,_,_=>none
abbrev Ih:Type:=ByteArray→Int→Int→Bool
abbrev HI:Type:=ByteArray→Int→Int→Int×Int
def Bn (G:Ih) (I:HI) (L:aD):aD:=bu 0 125 fX [0,3,4] (F9 G I) L
def mN (s:ByteArray) (v i:Int):Int×Int:=Classical.epsilon fun ρ=>aA Tryz.prog (lb 125 fX) (j9 s v i) (jy s v i) (.exit 0) (j9 s (ρ.1) (ρ.2)) (jy s (ρ.1) (ρ.2))∧DA s v i ρ
theorem MF (s:ByteArray) (v i:Int) (h:uN s v i):aA Tryz.prog (lb 125 fX) (j9 s v i) (jy s v i) (.exit 0) (j9 s ((mN s v i).1) ((mN s v i).2)) (jy s ((mN s v i).1) ((mN s v i).2))∧DA s v i (mN s v i):=Classical.epsilon_spec (Yt s v i h)
def xt (s:ByteArray) (v i:Int):Bool:= @decide (uN s v i) (Classical.propDecidable _)
theorem Uj (s:ByteArray) (v i:Int) (h:uN s v i):xt s v i=true:= @decide_eq_true _ (Classical.propDecidable _) h
theorem adt (T:List AV) (H:Hp) (e:Ex) (J:List AV) (I:Hp) (h:F9 xt mN T H=some (true,e,J,I)):V.Ends Tryz.prog false 0 0 (.loop (lb 125 fX)) T H e J I:=by
 unfold F9 at h
 split at h
 ·rename_i s v i U Z ab
  rw [Bool.cond_eq_ite] at h
  split at h
  ·rename_i M
   rw [beq_iff_eq] at M
   simp only [Option.some.injEq,Prod.mk.injEq,Bool.and_eq_true,decide_eq_true_eq] at h
   obtain ⟨k1,rfl,rfl,rfl⟩:=h
   have a1:= @of_decide_eq_true _ (Classical.propDecidable _) k1
   refine Ends.pre (MF s v i a1).1.ends (fun α B w D a6 aE=>bw M (fun p O y G=> ?_) aE)
   simp only [List.mem_cons,List.not_mem_nil,or_false] at O
   rcases O with rfl | rfl | rfl
   ·rw [U] at G;exact G
   ·rw [Z] at G;exact G
   ·rw [ab] at G;exact G
  ·cases h
 ·cases h
theorem Qq {L:aD} (h:aC Tryz.prog L):aC Tryz.prog (Bn xt mN L):=h.bC RD adt
theorem Zm (G:Ih) (I:HI) (s:ByteArray):aG Tryz.prog ⟨aM,az,Bn G I aq⟩ 10 10 125 [.val (.string s)]=
  (bif G s (0:Int) (0:Int) then some (.val (.int .i64 ((I s (0:Int) (0:Int)).fst))) else none):=by kernel_rfl
theorem VX:Entry Tryz.prog 125 (pT aa):=by
 refine aZ (E:= ⟨aM,az,Bn xt mN aq⟩) (u:=10) (d:=10) (aK _) (Qq aC.none).ok mixed (by kernel_rfl) (fun args r h=> ?_)
 unfold pT at h
 split at h
 ·rename_i s
  simp only [Option.some.injEq,Prod.mk.injEq,decide_eq_true_eq] at h
  obtain ⟨J,rfl⟩:=h
  have I:uN s 0 0:= ⟨J,rfl,rfl⟩
  have G:=(MF _ _ _ I).2
  have G:(mN s 0 0).1=(vS s:Nat):=G
  rw [Zm,Uj _ _ _ I,G]
  rfl
 ·cases h
theorem abn (S:Sg) (b:Bool) (n d:ByteArray):aG Tryz.prog ⟨au 125 (pT S) aM,az,aq⟩ 10 10 93 [.agg [.val (.bool b), .val (.string n), .val (.string d)]]=
  (bif decide (3 < (↑n.size:Int)) then some (.tup [(.val (.int .i64 0)),(.val (.int .i64 0)),(.val (.bool false))]) else (bif decide (3 < (↑d.size:Int)) then some (.tup [(.val (.int .i64 0)),(.val (.int .i64 0)),(.val (.bool false))]) else (bif decide (n.size≤3) then (bif decide (d.size≤3) then (bif decide ((↑(S.vs d):Int)=0) then (bif b then some (.tup [(.val (.int .i64 (IntKind.i64.wrap (0 - (↑(S.vs n):Int))))),(.val (.int .i64 1)),(.val (.bool true))]) else some (.tup [(.val (.int .i64 ((↑(S.vs n):Int)))),(.val (.int .i64 1)),(.val (.bool true))])) else (bif b then some (.tup [(.val (.int .i64 (IntKind.i64.wrap (0 - (↑(S.vs n):Int))))),(.val (.int .i64 ((↑(S.vs d):Int)))),(.val (.bool true))]) else some (.tup [(.val (.int .i64 ((↑(S.vs n):Int)))),(.val (.int .i64 ((↑(S.vs d):Int)))),(.val (.bool true))]))) else none) else none))):=by kernel_rfl
theorem aaH (n:Int):letI O:=(n.fdiv (4294967296:Int));letI J:=(n.fdiv (16777216:Int));letI a1:=(ofBytes [IntKind.u8.wrap (n.fdiv (281474976710656:Int)),IntKind.u8.wrap (n.fdiv (1099511627776:Int)),IntKind.u8.wrap O,IntKind.u8.wrap J,IntKind.u8.wrap (n.fdiv (65536:Int)),IntKind.u8.wrap (n.fdiv (256:Int)),IntKind.u8.wrap (n.fdiv (1:Int))]);letI ab:Option AV:=(bif decide (0 < (n.fdiv (1:Int)).tmod (256:Int)) then some (.val (.string a1)) else some (.val (.string a1)));letI G:Option AV:=(bif decide (0 < (n.fdiv (256:Int)).tmod (256:Int)) then ab else ab);letI a7:=(ofBytes [IntKind.u8.wrap (n.fdiv (1099511627776:Int)),IntKind.u8.wrap O,IntKind.u8.wrap J,IntKind.u8.wrap (n.fdiv (65536:Int)),IntKind.u8.wrap (n.fdiv (256:Int)),IntKind.u8.wrap (n.fdiv (1:Int))]);letI I:Option AV:=(bif decide (0 < (n.fdiv (1:Int)).tmod (256:Int)) then some (.val (.string a7)) else some (.val (.string a7)));letI bx:=(ofBytes [IntKind.u8.wrap O,IntKind.u8.wrap J,IntKind.u8.wrap (n.fdiv (65536:Int)),IntKind.u8.wrap (n.fdiv (256:Int)),IntKind.u8.wrap (n.fdiv (1:Int))]);letI M:Option AV:=(bif decide (0 < (n.fdiv (1:Int)).tmod (256:Int)) then some (.val (.string bx)) else some (.val (.string bx)));letI Z:=(ofBytes [IntKind.u8.wrap J,IntKind.u8.wrap (n.fdiv (65536:Int)),IntKind.u8.wrap (n.fdiv (256:Int)),IntKind.u8.wrap (n.fdiv (1:Int))]);letI U:Option AV:=(bif decide (0 < (n.fdiv (1:Int)).tmod (256:Int)) then some (.val (.string Z)) else some (.val (.string Z)));letI aE:=(ofBytes [IntKind.u8.wrap (n.fdiv (65536:Int)),IntKind.u8.wrap (n.fdiv (256:Int)),IntKind.u8.wrap (n.fdiv (1:Int))]);letI a6:Option AV:=(bif decide (0 < (n.fdiv (1:Int)).tmod (256:Int)) then some (.val (.string aE)) else some (.val (.string aE)));
  (aG Tryz.prog ⟨aM,fun _=>false,aq⟩ 10 10 126 [.val (.int .i64 n)]=(bif decide (0 < (n.fdiv (281474976710656:Int)).tmod (256:Int)) then (bif decide (0 < (n.fdiv (1099511627776:Int)).tmod (256:Int)) then (bif decide (0 < O.tmod (256:Int)) then (bif decide (0 < J.tmod (256:Int)) then (bif decide (0 < (n.fdiv (65536:Int)).tmod (256:Int)) then G else G) else (bif decide (0 < (n.fdiv (65536:Int)).tmod (256:Int)) then G else G)) else (bif decide (0 < J.tmod (256:Int)) then (bif decide (0 < (n.fdiv (65536:Int)).tmod (256:Int)) then G else G) else (bif decide (0 < (n.fdiv (65536:Int)).tmod (256:Int)) then G else G))) else (bif decide (0 < O.tmod (256:Int)) then (bif decide (0 < J.tmod (256:Int)) then (bif decide (0 < (n.fdiv (65536:Int)).tmod (256:Int)) then G else G) else (bif decide (0 < (n.fdiv (65536:Int)).tmod (256:Int)) then G else G)) else (bif decide (0 < J.tmod (256:Int)) then (bif decide (0 < (n.fdiv (65536:Int)).tmod (256:Int)) then G else G) else (bif decide (0 < (n.fdiv (65536:Int)).tmod (256:Int)) then G else G)))) else (bif decide (0 < (n.fdiv (1099511627776:Int)).tmod (256:Int)) then (bif decide (0 < O.tmod (256:Int)) then (bif decide (0 < J.tmod (256:Int)) then (bif decide (0 < (n.fdiv (65536:Int)).tmod (256:Int)) then (bif decide (0 < (n.fdiv (256:Int)).tmod (256:Int)) then I else I) else (bif decide (0 < (n.fdiv (256:Int)).tmod (256:Int)) then I else I)) else (bif decide (0 < (n.fdiv (65536:Int)).tmod (256:Int)) then (bif decide (0 < (n.fdiv (256:Int)).tmod (256:Int)) then I else I) else (bif decide (0 < (n.fdiv (256:Int)).tmod (256:Int)) then I else I))) else (bif decide (0 < J.tmod (256:Int)) then (bif decide (0 < (n.fdiv (65536:Int)).tmod (256:Int)) then (bif decide (0 < (n.fdiv (256:Int)).tmod (256:Int)) then I else I) else (bif decide (0 < (n.fdiv (256:Int)).tmod (256:Int)) then I else I)) else (bif decide (0 < (n.fdiv (65536:Int)).tmod (256:Int)) then (bif decide (0 < (n.fdiv (256:Int)).tmod (256:Int)) then I else I) else (bif decide (0 < (n.fdiv (256:Int)).tmod (256:Int)) then I else I)))) else (bif decide (0 < O.tmod (256:Int)) then (bif decide (0 < J.tmod (256:Int)) then (bif decide (0 < (n.fdiv (65536:Int)).tmod (256:Int)) then (bif decide (0 < (n.fdiv (256:Int)).tmod (256:Int)) then M else M) else (bif decide (0 < (n.fdiv (256:Int)).tmod (256:Int)) then M else M)) else (bif decide (0 < (n.fdiv (65536:Int)).tmod (256:Int)) then (bif decide (0 < (n.fdiv (256:Int)).tmod (256:Int)) then M else M) else (bif decide (0 < (n.fdiv (256:Int)).tmod (256:Int)) then M else M))) else (bif decide (0 < J.tmod (256:Int)) then (bif decide (0 < (n.fdiv (65536:Int)).tmod (256:Int)) then (bif decide (0 < (n.fdiv (256:Int)).tmod (256:Int)) then U else U) else (bif decide (0 < (n.fdiv (256:Int)).tmod (256:Int)) then U else U)) else (bif decide (0 < (n.fdiv (65536:Int)).tmod (256:Int)) then (bif decide (0 < (n.fdiv (256:Int)).tmod (256:Int)) then a6 else a6) else (bif decide (0 < (n.fdiv (256:Int)).tmod (256:Int)) then (bif decide (0 < (n.fdiv (1:Int)).tmod (256:Int)) then some (.val (.string (ofBytes [IntKind.u8.wrap (n.fdiv (256:Int)),IntKind.u8.wrap (n.fdiv (1:Int))]))) else some (.val (.string (ofBytes [IntKind.u8.wrap (n.fdiv (256:Int)),IntKind.u8.wrap (n.fdiv (1:Int))])))) else (bif decide (0 < (n.fdiv (1:Int)).tmod (256:Int)) then some (.val (.string (ofBytes [IntKind.u8.wrap (n.fdiv (1:Int))]))) else some (.val (.string (ofBytes []))))))))))):=by kernel_rfl
def bl (n:Nat):Nat→List Int
 | 0=> []
 | k+1=>bl (n / 256) k ++ [((n % 256:Nat):Int)]
theorem I5:∀ (k n:Nat),n < 256 ^ k→(k=0∨256 ^ (k - 1)≤n)→(bl n k).map (fun z=>UInt8.ofNat z.toNat)=toB n
 | 0,n,h,_=>by
  have:n=0:=by simpa using h
  subst this
  rw [toB_zero];rfl
 | k+1,n,h,G=>by
  have I:256 ^ k≤n:=by
   rcases G with G | G
   ·omega
   ·exact G
  have O:0 < 256 ^ k:=Nat.pow_pos (by decide)
  have J:n / 256 < 256 ^ k:=by rw [Nat.div_lt_iff_lt_mul (by decide),← Nat.pow_succ];exact h
  have M:k=0∨256 ^ (k - 1)≤n / 256:=by
   rcases Nat.eq_zero_or_pos k with e | e
   ·exact .inl e
   ·right
    rw [Nat.le_div_iff_mul_le (by decide),← Nat.pow_succ,show (k - 1).succ=k by omega]
    exact I
  rw [toB_pos (by omega),← I5 k (n / 256) J M]
  show (bl (n / 256) k ++ [((n % 256:Nat):Int)]).map _=_
  rw [List.map_append]
  refine congrArg (_ ++ ·) ?_
  show [UInt8.ofNat (n % 256)]= [UInt8.ofNat n]
  refine congrArg (fun x=> [x]) ?_
  apply UInt8.toNat_inj.1
  rw [UInt8.toNat_ofNat',UInt8.toNat_ofNat']
  omega
theorem nv {k n:Nat} {zs:List Int} (e:zs=bl n k) (h:n < 256 ^ k) (G:k=0∨256 ^ (k - 1)≤n):ofBytes zs=av n:=by
 rw [e];exact LS (I5 k n h G)
theorem Uy {α:Type} (u:Bool) (x:α):(bif u then x else x)=x:=by cases u <;> rfl
theorem VO:Entry Tryz.prog 126 (zF aa):=by
 refine aZ (E:= ⟨aM,fun _=>false,aq⟩) (u:=10) (d:=10) (aK _) aO mixed (by kernel_rfl) (fun args r h=> ?_)
 unfold zF at h
 split at h
 ·rename_i z
  simp only [Option.some.injEq,Prod.mk.injEq,Bool.and_eq_true,decide_eq_true_eq] at h
  obtain ⟨⟨bD,b2⟩,rfl⟩:=h
  obtain ⟨n,rfl⟩:=Int.eq_ofNat_of_zero_le bD
  have b0:n < 72057594037927936:=by omega
  rw [Int.toNat_natCast,aaH]
  simp only [Uy]
  have bx:(n:Int).fdiv (281474976710656:Int)=((n / 281474976710656:Nat):Int):=gM n 281474976710656
  have a7:(n:Int).fdiv (1099511627776:Int)=((n / 1099511627776:Nat):Int):=gM n 1099511627776
  have a6:(n:Int).fdiv (4294967296:Int)=((n / 4294967296:Nat):Int):=gM n 4294967296
  have a1:(n:Int).fdiv (16777216:Int)=((n / 16777216:Nat):Int):=gM n 16777216
  have aE:(n:Int).fdiv (65536:Int)=((n / 65536:Nat):Int):=gM n 65536
  have ab:(n:Int).fdiv (256:Int)=((n / 256:Nat):Int):=gM n 256
  have Z:(n:Int).fdiv (1:Int)=(n:Int):=by rw [Int.fdiv_one]
  have b1:∀ k:Nat,((k:Nat):Int).tmod (256:Int)=((k % 256:Nat):Int):=fun k=>rfl
  rw [bx,a7,a6,a1,aE,ab,Z]
  simp only [b1,kD]
  have G:∀ zs,ofBytes zs=av n→some (AV.val (.string (ofBytes zs)))=some (AV.val (.string (aa.mg n))):=fun zs h=>by rw [h];rfl
  by_cases U:281474976710656≤n
  ·rw [dT (show (0:Int) < ((n / 281474976710656 % 256:Nat):Int) by omega)]
   exact G _ (nv (k:=7) (by simp [bl,Nat.div_div_eq_div_mul]) b0 (.inr U))
  ·rw [dF (show ¬ (0:Int) < ((n / 281474976710656 % 256:Nat):Int) by omega)]
   by_cases O:1099511627776≤n
   ·rw [dT (show (0:Int) < ((n / 1099511627776 % 256:Nat):Int) by omega)]
    exact G _ (nv (k:=6) (by simp [bl,Nat.div_div_eq_div_mul]) (show n < 281474976710656 by omega) (.inr O))
   ·rw [dF (show ¬ (0:Int) < ((n / 1099511627776 % 256:Nat):Int) by omega)]
    by_cases M:4294967296≤n
    ·rw [dT (show (0:Int) < ((n / 4294967296 % 256:Nat):Int) by omega)]
     exact G _ (nv (k:=5) (by simp [bl,Nat.div_div_eq_div_mul]) (show n < 1099511627776 by omega) (.inr M))
    ·rw [dF (show ¬ (0:Int) < ((n / 4294967296 % 256:Nat):Int) by omega)]
     by_cases J:16777216≤n
     ·rw [dT (show (0:Int) < ((n / 16777216 % 256:Nat):Int) by omega)]
      exact G _ (nv (k:=4) (by simp [bl,Nat.div_div_eq_div_mul]) (show n < 4294967296 by omega) (.inr J))
     ·rw [dF (show ¬ (0:Int) < ((n / 16777216 % 256:Nat):Int) by omega)]
      by_cases c2:65536≤n
      ·rw [dT (show (0:Int) < ((n / 65536 % 256:Nat):Int) by omega)]
       exact G _ (nv (k:=3) (by simp [bl,Nat.div_div_eq_div_mul]) (show n < 16777216 by omega) (.inr c2))
      ·rw [dF (show ¬ (0:Int) < ((n / 65536 % 256:Nat):Int) by omega)]
       by_cases c1:256≤n
       ·rw [dT (show (0:Int) < ((n / 256 % 256:Nat):Int) by omega)]
        exact G _ (nv (k:=2) (by simp [bl,Nat.div_div_eq_div_mul]) (show n < 65536 by omega) (.inr c1))
       ·rw [dF (show ¬ (0:Int) < ((n / 256 % 256:Nat):Int) by omega)]
        by_cases I:0 < n
        ·rw [dT (show (0:Int) < ((n % 256:Nat):Int) by omega)]
         exact G _ (nv (k:=1) (by simp [bl]) (show n < 256 by omega) (.inr I))
        ·rw [dF (show ¬ (0:Int) < ((n % 256:Nat):Int) by omega)]
         exact G _ (nv (k:=0) rfl (show n < 1 by omega) (.inl rfl))
 ·cases h
theorem J8:Entry Tryz.prog 93 (pU ad):=by
 refine aZ (E:= ⟨au 125 (pT aa) aM,az,aq⟩) (u:=10) (d:=10) ((aK _).add VX) aO mixed (by kernel_rfl) (fun args r h=> ?_)
 unfold pU at h
 split at h
 ·rename_i b n d
  simp only [Option.some.injEq,Prod.mk.injEq,true_and] at h
  subst h
  rw [abn]
  have a1:∀ x y:ByteArray,ad.ms x y=gE x y:=fun x y=>rfl
  have Z:ad.mn b n d=bif gE n d then aa.val b n else 0:=rfl
  have O:ad.md n d=bif gE n d then dn d else 0:=rfl
  rw [a1,Z,O]
  unfold gE
  by_cases J:n.size≤3
  ·by_cases M:d.size≤3
   ·rw [dF (show ¬ (3:Int) < n.size by omega),dF (show ¬ (3:Int) < d.size by omega),dT J,dT M]
    have G:=qc (s:=n) (by omega)
    have G:aa.vs n < _:=G
    have ab:∀ b,aa.val b n=if b=true then -(aa.vs n:Int) else (aa.vs n:Int):=fun b=>rfl
    have aE:IntKind.i64.wrap (0 - ((aa.vs n:Nat):Int))= -((aa.vs n:Nat):Int):=by rw [IntKind.wrap_i64];omega
    have U:dn d=if aa.vs d=0 then 1 else (aa.vs d:Int):=rfl
    rw [U,aE,ab]
    by_cases I:aa.vs d=0
    ·rw [dT (show ((aa.vs d:Nat):Int)=0 by omega),if_pos I]
     cases b <;> rfl
    ·rw [dF (show ¬ ((aa.vs d:Nat):Int)=0 by omega),if_neg I]
     cases b <;> rfl
   ·rw [dF (show ¬ (3:Int) < n.size by omega),dT (show (3:Int) < d.size by omega),dF M,Bool.and_false];rfl
  ·rw [dT (show (3:Int) < n.size by omega),dF J];rfl
 ·cases h
end
end Go.Proofs.YtamcpiicmfielaaGreat.L
namespace Go.Proofs.YtamcpiicmfielaaGreat.L
open Go Go.V Go.RowKit Go.Proofs.YtamcpiicmfielaaGreat.Sp Go.Proofs.YtamcpiicmfielaaGreat.F
open Go.Proofs (Tryz.prog)
noncomputable section
abbrev fY:List Bool:= [false,false,true,true,true,true,true]
def ke (n d a c:Int) (J:Bool) (O M:ByteArray) (G:Bool) (I rd:ByteArray):List AV:=ao 41 [(0, .val (.int .i64 n)),(1, .val (.int .i64 d)),(4, .ptr 0 0),(5, .ptr 1 0),(6, .val (.int .i64 a)),(7, .val (.int .i64 c))]
def jz (n d a c:Int) (J:Bool) (O M:ByteArray) (G:Bool) (I rd:ByteArray):Hp:= [.row (.cells [.val (.bool J), .val (.string O), .val (.string M)]) 27 .live, .row (.cells [.val (.bool G), .val (.string I), .val (.string rd)]) 27 .live]
theorem RE:aI Tryz.prog 94 fY=some (.loop (lb 94 fY)):=by kernel_rfl
theorem Tn:aI Tryz.prog 94 (false :: fY)=some (lb 94 fY):=by kernel_rfl
theorem aa9 (n d a c:Int) (J:Bool) (O M:ByteArray) (G:Bool) (I rd:ByteArray):aP Tryz.prog bg 94 [0,1,4,5,6,7] (lb 94 fY) (false :: fY) (ke n d a c J O M G I rd) (jz n d a c J O M G I rd)=
  (bif decide (0 < c) then (bif decide (c=0) then none else some (.normal,ao 41 [(0,(.val (.int .i64 n))),(1,(.val (.int .i64 d))),(4,(.ptr 0 0)),(5,(.ptr 1 0)),(6,(.val (.int .i64 c))),(7,(.val (.int .i64 (a.tmod c))))], [(.row (.cells [(.val (.bool J)),(.val (.string O)),(.val (.string M))]) 27 .live),(.row (.cells [(.val (.bool G)),(.val (.string I)),(.val (.string rd))]) 27 .live)])) else some ((.exit 0),ao 41 [(0,(.val (.int .i64 n))),(1,(.val (.int .i64 d))),(4,(.ptr 0 0)),(5,(.ptr 1 0)),(6,(.val (.int .i64 a))),(7,(.val (.int .i64 c)))], [(.row (.cells [(.val (.bool J)),(.val (.string O)),(.val (.string M))]) 27 .live),(.row (.cells [(.val (.bool G)),(.val (.string I)),(.val (.string rd))]) 27 .live)])):=by kernel_rfl
theorem On {n d a c:Int} {J:Bool} {O M:ByteArray} {G:Bool} {I rd:ByteArray} {e:Ex} {T:List AV} {H:Hp} (h:aP Tryz.prog bg 94 [0,1,4,5,6,7] (lb 94 fY) (false :: fY) (ke n d a c J O M G I rd) (jz n d a c J O M G I rd)=some (e,T,H)):V.Ends Tryz.prog false 0 0 (lb 94 fY) (ke n d a c J O M G I rd) (jz n d a c J O M G I rd) e T H:=
 bK (aK _) aO mixed Tn h
def rK (n d a c:Int) (J:Bool) (O M:ByteArray) (G:Bool) (I rd:ByteArray):Prop:=0≤a∧0≤c
def rJ (n d a c:Int) (J:Bool) (O M:ByteArray) (G:Bool) (I rd:ByteArray) (r:Int×Int):Prop:=r.1=(Nat.gcd a.natAbs c.natAbs:Nat)
theorem ZX (n d:Int) (J:Bool) (O M:ByteArray) (G:Bool) (I rd:ByteArray) (k:Nat):∀ a c:Nat,c=k→∃ r:Int×Int,aA Tryz.prog (lb 94 fY) (ke n d a c J O M G I rd) (jz n d a c J O M G I rd) (.exit 0) (ke n d r.1 r.2 J O M G I rd) (jz n d r.1 r.2 J O M G I rd)∧r.1=(Nat.gcd a c:Nat):=by
 induction k using Nat.strongRecOn with
 | _ k a1=>
  intro a c a6
  have U:=aa9 n d a c J O M G I rd
  by_cases Z:c=0
  ·refine ⟨((a:Int),(c:Int)), .last (On ?_) (by intro h;cases h),by rw [Z,Nat.gcd_zero_right]⟩
   rw [U,dF (show ¬ (0:Int) < (c:Int) by omega)]
   rfl
  ·have a7:a % c < c:=Nat.mod_lt _ (by omega)
   obtain ⟨r,ab,aE⟩:=a1 (a % c) (by omega) c (a % c) rfl
   refine ⟨r, .more (On ?_) ab,by rw [aE,Nat.gcd_comm c,← Nat.gcd_rec,Nat.gcd_comm]⟩
   rw [U,dT (show (0:Int) < (c:Int) by omega),dF (show ¬ (c:Int)=0 by omega)]
   rfl
theorem Yu (n d a c:Int) (J:Bool) (O M:ByteArray) (G:Bool) (I rd:ByteArray) (h:rK n d a c J O M G I rd):∃ r:Int×Int,aA Tryz.prog (lb 94 fY) (ke n d a c J O M G I rd) (jz n d a c J O M G I rd) (.exit 0) (ke n d r.1 r.2 J O M G I rd) (jz n d r.1 r.2 J O M G I rd)∧rJ n d a c J O M G I rd r:=by
 obtain ⟨U,Z⟩:=h
 obtain ⟨a,rfl⟩:=Int.eq_ofNat_of_zero_le U
 obtain ⟨c,rfl⟩:=Int.eq_ofNat_of_zero_le Z
 obtain ⟨r,k1,ab⟩:=ZX n d J O M G I rd c a c rfl
 exact ⟨r,k1,by unfold rJ;rw [ab];rfl⟩
def Ga (Z:Int→Int→Int→Int→Bool→ByteArray→ByteArray→Bool→ByteArray→ByteArray→Bool) (U:Int→Int→Int→Int→Bool→ByteArray→ByteArray→Bool→ByteArray→ByteArray→Int×Int) (T:List AV) (H:Hp):Option (Bool×Ex×List AV×Hp):=
 match al T 0,al T 1,al T 4,al T 5,al T 6,al T 7,H with
 | .val (.int .i64 n), .val (.int .i64 d), .ptr 0 0, .ptr 1 0, .val (.int .i64 a), .val (.int .i64 c), [.row (.cells [.val (.bool J), .val (.string O), .val (.string M)]) 27 .live, .row (.cells [.val (.bool G), .val (.string I), .val (.string rd)]) 27 .live]=>bif T.length==41 then some (Z n d a c J O M G I rd, .exit 0,ke n d ((U n d a c J O M G I rd).1) ((U n d a c J O M G I rd).2) J O M G I rd,jz n d ((U n d a c J O M G I rd).1) ((U n d a c J O M G I rd).2) J O M G I rd) else none
 | _,_,_,_,_,_,_=>none
abbrev Ii:Type:=Int→Int→Int→Int→Bool→ByteArray→ByteArray→Bool→ByteArray→ByteArray→Bool
abbrev HJ:Type:=Int→Int→Int→Int→Bool→ByteArray→ByteArray→Bool→ByteArray→ByteArray→Int×Int
def Bo (G:Ii) (I:HJ) (L:aD):aD:=bu 0 94 fY [0,1,4,5,6,7] (Ga G I) L
def mO (n d a c:Int) (J:Bool) (O M:ByteArray) (G:Bool) (I rd:ByteArray):Int×Int:=Classical.epsilon fun ρ=>aA Tryz.prog (lb 94 fY) (ke n d a c J O M G I rd) (jz n d a c J O M G I rd) (.exit 0) (ke n d (ρ.1) (ρ.2) J O M G I rd) (jz n d (ρ.1) (ρ.2) J O M G I rd)∧rJ n d a c J O M G I rd ρ
theorem Df (n d a c:Int) (J:Bool) (O M:ByteArray) (G:Bool) (I rd:ByteArray) (h:rK n d a c J O M G I rd):aA Tryz.prog (lb 94 fY) (ke n d a c J O M G I rd) (jz n d a c J O M G I rd) (.exit 0) (ke n d ((mO n d a c J O M G I rd).1) ((mO n d a c J O M G I rd).2) J O M G I rd) (jz n d ((mO n d a c J O M G I rd).1) ((mO n d a c J O M G I rd).2) J O M G I rd)∧rJ n d a c J O M G I rd (mO n d a c J O M G I rd):=Classical.epsilon_spec (Yu n d a c J O M G I rd h)
def sV (n d a c:Int) (J:Bool) (O M:ByteArray) (G:Bool) (I rd:ByteArray):Bool:= @decide (rK n d a c J O M G I rd) (Classical.propDecidable _)
theorem JI (n d a c:Int) (J:Bool) (O M:ByteArray) (G:Bool) (I rd:ByteArray) (h:rK n d a c J O M G I rd):sV n d a c J O M G I rd=true:= @decide_eq_true _ (Classical.propDecidable _) h
theorem adu (T:List AV) (H:Hp) (e:Ex) (J:List AV) (I:Hp) (h:Ga sV mO T H=some (true,e,J,I)):V.Ends Tryz.prog false 0 0 (.loop (lb 94 fY)) T H e J I:=by
 unfold Ga at h
 split at h
 ·rename_i n d a c b1 b3 b2 bD b0 rd U Z ab aE a1 a6
  rw [Bool.cond_eq_ite] at h
  split at h
  ·rename_i M
   rw [beq_iff_eq] at M
   simp only [Option.some.injEq,Prod.mk.injEq,Bool.and_eq_true,decide_eq_true_eq] at h
   obtain ⟨k1,rfl,rfl,rfl⟩:=h
   have bx:= @of_decide_eq_true _ (Classical.propDecidable _) k1
   refine Ends.pre (Df n d a c b1 b3 b2 bD b0 rd bx).1.ends (fun α B w D b4 a7=>bw M (fun p O y G=> ?_) a7)
   simp only [List.mem_cons,List.not_mem_nil,or_false] at O
   rcases O with rfl | rfl | rfl | rfl | rfl | rfl
   ·rw [U] at G;exact G
   ·rw [Z] at G;exact G
   ·rw [ab] at G;exact G
   ·rw [aE] at G;exact G
   ·rw [a1] at G;exact G
   ·rw [a6] at G;exact G
  ·cases h
 ·cases h
theorem Qr {L:aD} (h:aC Tryz.prog L):aC Tryz.prog (Bo sV mO L):=h.bC RE adu
theorem ZL (S:Sg) (O:Ii) (U:HJ) (n d:Int):letI J:=(IntKind.i64.wrap (0 - n));letI M:=(decide (n < 0));letI G:=(U J d J d false (ByteArray.mk #[]) (ByteArray.mk #[]) M (ByteArray.mk #[]) (ByteArray.mk #[]));letI I:=(U n d n d false (ByteArray.mk #[]) (ByteArray.mk #[]) M (ByteArray.mk #[]) (ByteArray.mk #[]));
  (aG Tryz.prog ⟨au 126 (zF S) aM,az,Bo O U aq⟩ 10 10 94 [.val (.int .i64 n), .val (.int .i64 d)]=(bif decide (n < 0) then (bif decide (IntKind.i64.wrap (0 - n)=0) then some (.agg [(.val (.bool false)),(.val (.string (ByteArray.mk #[]))),(.val (.string (ByteArray.mk #[])))]) else (bif O J d J d false (ByteArray.mk #[]) (ByteArray.mk #[]) M (ByteArray.mk #[]) (ByteArray.mk #[]) then (bif decide (G.fst=0) then none else (bif ah IntKind.i64 (J.tdiv G.fst) then (bif decide (0≤J.tdiv G.fst)&&decide (J.tdiv G.fst < 72057594037927936) then (bif decide (G.fst=0) then none else (bif ah IntKind.i64 (d.tdiv G.fst) then (bif decide (1 < d.tdiv G.fst) then (bif decide (G.fst=0) then none else (bif ah IntKind.i64 (d.tdiv G.fst) then (bif decide (0≤d.tdiv G.fst)&&decide (d.tdiv G.fst < 72057594037927936) then some (.agg [(.val (.bool M)),(.val (.string (S.mg (J.tdiv G.fst).toNat))),(.val (.string (S.mg (d.tdiv G.fst).toNat)))]) else none) else none)) else some (.agg [(.val (.bool M)),(.val (.string (S.mg (J.tdiv G.fst).toNat))),(.val (.string (ByteArray.mk #[])))])) else none)) else none) else none)) else none)) else (bif decide (n=0) then some (.agg [(.val (.bool false)),(.val (.string (ByteArray.mk #[]))),(.val (.string (ByteArray.mk #[])))]) else (bif O n d n d false (ByteArray.mk #[]) (ByteArray.mk #[]) M (ByteArray.mk #[]) (ByteArray.mk #[]) then (bif decide (I.fst=0) then none else (bif ah IntKind.i64 (n.tdiv I.fst) then (bif decide (0≤n.tdiv I.fst)&&decide (n.tdiv I.fst < 72057594037927936) then (bif decide (I.fst=0) then none else (bif ah IntKind.i64 (d.tdiv I.fst) then (bif decide (1 < d.tdiv I.fst) then (bif decide (I.fst=0) then none else (bif ah IntKind.i64 (d.tdiv I.fst) then (bif decide (0≤d.tdiv I.fst)&&decide (d.tdiv I.fst < 72057594037927936) then some (.agg [(.val (.bool M)),(.val (.string (S.mg (n.tdiv I.fst).toNat))),(.val (.string (S.mg (d.tdiv I.fst).toNat)))]) else none) else none)) else some (.agg [(.val (.bool M)),(.val (.string (S.mg (n.tdiv I.fst).toNat))),(.val (.string (ByteArray.mk #[])))])) else none)) else none) else none)) else none)))):=by kernel_rfl
def wm (S:Sg):FuncId→TF:=au 102 (kB S) (au 124 (kC S) aM)
theorem abj (S:Sg) (b:Bool) (n d:ByteArray):aG Tryz.prog ⟨wm S,az,aq⟩ 10 10 90 [.agg [.val (.bool b), .val (.string n), .val (.string d)]]=
  (bif S.ok n&&S.ok (ByteArray.mk #[]) then (bif S.ok d&&S.ok (ByteArray.mk #[]) then (bif aF (S.ms (S.val false d+S.val false (ByteArray.mk #[]))) (ByteArray.mk #[]) then some (.tup [(.agg [(.val (.bool (S.ng (S.val b n+S.val false (ByteArray.mk #[]))))),(.val (.string (S.ms (S.val b n+S.val false (ByteArray.mk #[])))))]),(.agg [(.val (.bool (S.ng (1:Int)))),(.val (.string (S.ms (1:Int))))])]) else some (.tup [(.agg [(.val (.bool (S.ng (S.val b n+S.val false (ByteArray.mk #[]))))),(.val (.string (S.ms (S.val b n+S.val false (ByteArray.mk #[])))))]),(.agg [(.val (.bool (S.ng (S.val false d+S.val false (ByteArray.mk #[]))))),(.val (.string (S.ms (S.val false d+S.val false (ByteArray.mk #[])))))])])) else none) else none):=by kernel_rfl
def Ad (S:Sg) (X:Xg):FuncId→TF:=au 127 (kX S) (au 128 (zp S X) (au 129 (zk S X) (wm S)))
theorem aaK (S:Sg) (X:Xg) (b c:Bool) (s t:ByteArray):letI I:=(S.val b s+S.val false (ByteArray.mk #[]));letI U:=(-S.val (S.ng I) (S.ms I));letI G:=(S.val c t+S.val false (ByteArray.mk #[]));letI O:=(-S.val (S.ng G) (S.ms G));letI J:=(X.gcd (S.val (S.ng U) (S.ms U)) (S.val (S.ng O) (S.ms O)));letI M:=(X.gcd (S.val (S.ng I) (S.ms I)) (S.val (S.ng G) (S.ms G)));letI Z:=(X.dq (S.val (S.ng U) (S.ms U)) (S.val (S.ng J) (S.ms J)));letI ab:=(X.dq (S.val (S.ng I) (S.ms I)) (S.val (S.ng M) (S.ms M)));
  (aG Tryz.prog ⟨Ad S X,az,aq⟩ 10 10 95 [.agg [.val (.bool b), .val (.string s)], .agg [.val (.bool c), .val (.string t)]]=(bif S.ok s&&S.ok (ByteArray.mk #[]) then (bif S.ok t&&S.ok (ByteArray.mk #[]) then (bif aF (S.ms I) (ByteArray.mk #[]) then some (.agg [(.val (.bool false)),(.val (.string (ByteArray.mk #[]))),(.val (.string (ByteArray.mk #[])))]) else (bif S.ng G then (bif S.ok (S.ms I) then (bif S.ok (S.ms G) then (bif X.cL (S.ms U)&&X.cL (S.ms O) then (bif X.cL (S.ms U)&&X.cL (S.ms J) then (bif X.cL (S.ms O)&&X.cL (S.ms J) then (bif !aF (S.ms (X.dq (S.val (S.ng O) (S.ms O)) (S.val (S.ng J) (S.ms J)))) (ByteArray.mk #[(1:UInt8)]) then some (.agg [(.val (.bool (S.ng Z))),(.val (.string (S.ms Z))),(.val (.string (S.ms (X.dq (S.val (S.ng O) (S.ms O)) (S.val (S.ng J) (S.ms J))))))]) else some (.agg [(.val (.bool (S.ng Z))),(.val (.string (S.ms Z))),(.val (.string (ByteArray.mk #[])))])) else none) else none) else none) else none) else none) else (bif X.cL (S.ms I)&&X.cL (S.ms G) then (bif X.cL (S.ms I)&&X.cL (S.ms M) then (bif X.cL (S.ms G)&&X.cL (S.ms M) then (bif !aF (S.ms (X.dq (S.val (S.ng G) (S.ms G)) (S.val (S.ng M) (S.ms M)))) (ByteArray.mk #[(1:UInt8)]) then some (.agg [(.val (.bool (S.ng ab))),(.val (.string (S.ms ab))),(.val (.string (S.ms (X.dq (S.val (S.ng G) (S.ms G)) (S.val (S.ng M) (S.ms M))))))]) else some (.agg [(.val (.bool (S.ng ab))),(.val (.string (S.ms ab))),(.val (.string (ByteArray.mk #[])))])) else none) else none) else none))) else none) else none)):=by kernel_rfl
def wk (S:Sg) (X:Xg) (G:Qg):FuncId→TF:=au 93 (pU G) (au 94 (pX G) (au 90 (vT S G) (au 95 (vV S X G) aM)))
theorem Zi (S:Sg) (X:Xg) (G:Qg) (b:Bool) (n d:ByteArray):aG Tryz.prog ⟨wk S X G,az,aq⟩ 10 10 100 [.agg [.val (.bool b), .val (.string n), .val (.string d)]]=
  (bif G.ms n d then (bif jL (G.mn b n d)&&jL (G.md n d)&&decide (0 < G.md n d) then some (.agg [(.val (.bool (G.qn (G.fr (G.mn b n d) (G.md n d))))),(.val (.string (G.qs (G.fr (G.mn b n d) (G.md n d))))),(.val (.string (G.qd (G.fr (G.mn b n d) (G.md n d)))))]) else none) else (bif G.br n d then (bif X.cL (S.ms (S.val b n))&&X.cL (S.ms (S.val false (G.fd d)))&& !decide (S.val (S.ng (S.val false (G.fd d))) (S.ms (S.val false (G.fd d)))=0) then some (.agg [(.val (.bool (G.qn (G.fr (S.val (S.ng (S.val b n)) (S.ms (S.val b n))) (S.val (S.ng (S.val false (G.fd d))) (S.ms (S.val false (G.fd d)))))))),(.val (.string (G.qs (G.fr (S.val (S.ng (S.val b n)) (S.ms (S.val b n))) (S.val (S.ng (S.val false (G.fd d))) (S.ms (S.val false (G.fd d)))))))),(.val (.string (G.qd (G.fr (S.val (S.ng (S.val b n)) (S.ms (S.val b n))) (S.val (S.ng (S.val false (G.fd d))) (S.ms (S.val false (G.fd d))))))))]) else none) else none)):=by kernel_rfl
def Ae (S:Sg) (X:Xg) (G:Qg):FuncId→TF:=au 95 (vV S X G) (au 124 (kC S) (au 97 (oc S) (au 100 (zH G) (au 90 (vT S G) aM))))
theorem abk (S:Sg) (X:Xg) (G:Qg) (b:Bool) (n d:ByteArray):aG Tryz.prog ⟨Ae S X G,az,aq⟩ 10 10 51 [.agg [.val (.bool b), .val (.string n), .val (.string d)]]=
  (bif G.br n d then (bif bif true then !(G.qn (G.qv b n d)==b&&(aF (G.qs (G.qv b n d)) n&&(aF (G.qd (G.qv b n d)) d&&true))) else G.qn (G.qv b n d)==b&&(aF (G.qs (G.qv b n d)) n&&(aF (G.qd (G.qv b n d)) d&&true)) then some (.val (.int .i64 1)) else some (.val (.int .i64 0))) else none):=by kernel_rfl
end
end Go.Proofs.YtamcpiicmfielaaGreat.L
namespace Go.Proofs.YtamcpiicmfielaaGreat.L
open Go Go.V Go.RowKit Go.Proofs.YtamcpiicmfielaaGreat.Sp Go.Proofs.YtamcpiicmfielaaGreat.F
open Go.Proofs (Tryz.prog)
noncomputable section
theorem J5:Entry Tryz.prog 94 (pX ad):=by
 refine aZ (E:= ⟨au 126 (zF aa) aM,az,Bo sV mO aq⟩) (u:=10) (d:=10) ((aK _).add VO) (Qr aC.none).ok mixed (by kernel_rfl) (fun args r h=> ?_)
 unfold pX at h
 split at h
 ·rename_i n d
  simp only [Option.some.injEq,Prod.mk.injEq,Bool.and_eq_true,decide_eq_true_eq] at h
  obtain ⟨⟨⟨b0,b1⟩,a7⟩,rfl⟩:=h
  have b4:=ym b0
  have b5:=ym b1
  have G:=ZL aa sV mO n d
  have b3:IntKind.i64.wrap (0 - n)= -n:=by rw [IntKind.wrap_i64];omega
  have b6:0 < Nat.gcd n.natAbs d.natAbs:=Nat.gcd_pos_of_pos_right _ (by omega)
  have l1:=Nat.div_le_self n.natAbs (Nat.gcd n.natAbs d.natAbs)
  have l2:=Nat.div_le_self d.natAbs (Nat.gcd n.natAbs d.natAbs)
  obtain ⟨bD,_,Z,ab⟩:=xS n a7
  have b2:ad.fr n d=Rat.divInt n d:=rfl
  have M:ad.qn (Rat.divInt n d)=decide (n < 0):=by
   have:ad.qn (Rat.divInt n d)=aa.ng (Rat.divInt n d).num:=rfl
   rw [this,dj]
   refine decide_eq_decide.2 ?_
   rw [bD,Int.ediv_lt_iff_lt_mul (GN n a7),Int.zero_mul]
  have bx:Int.tdiv d ((Nat.gcd n.natAbs d.natAbs:Nat):Int)=((d.natAbs / Nat.gcd n.natAbs d.natAbs:Nat):Int):=by
   obtain ⟨m,rfl⟩:=Int.eq_ofNat_of_zero_le (show 0≤d by omega)
   rfl
  have I:=yN (Rat.divInt n d)
  have b7:=(Rat.divInt n d).den_pos
  rw [b3] at G
  rw [b2]
  by_cases aE:n < 0
  ·have U:rK (-n) d (-n) d false (ByteArray.mk #[]) (ByteArray.mk #[]) (decide (n < 0)) (ByteArray.mk #[]) (ByteArray.mk #[]):= ⟨by omega,by omega⟩
   obtain ⟨_,J⟩:=Df _ _ _ _ _ _ _ _ _ _ U
   unfold rJ at J
   rw [Int.natAbs_neg] at J
   have a6:Int.tdiv (-n) ((Nat.gcd n.natAbs d.natAbs:Nat):Int)=((n.natAbs / Nat.gcd n.natAbs d.natAbs:Nat):Int):=by
    have: -n=((n.natAbs:Nat):Int):=by omega
    rw [this];rfl
   rw [JI _ _ _ _ _ _ _ _ _ _ U,J,a6,bx,← Z,← ab,dF (show ¬ -n=0 by omega),dF (show ¬ ((Nat.gcd n.natAbs d.natAbs:Nat):Int)=0 by omega)] at G
   rw [← Z] at l1
   rw [← ab] at l2
   rw [aJ (z:=(((Rat.divInt n d).num.natAbs:Nat):Int)) (by omega),dT (show (0:Int)≤(((Rat.divInt n d).num.natAbs:Nat):Int) by omega),dT (show (((Rat.divInt n d).num.natAbs:Nat):Int) < 72057594037927936 by omega),aJ (z:=(((Rat.divInt n d).den:Nat):Int)) (by omega),dT (show (0:Int)≤(((Rat.divInt n d).den:Nat):Int) by omega),dT (show (((Rat.divInt n d).den:Nat):Int) < 72057594037927936 by omega),Int.toNat_natCast,Int.toNat_natCast] at G
   rw [dT aE,cond_true] at G
   rw [dT aE] at M
   rw [G]
   by_cases O:(Rat.divInt n d).den=1
   ·rw [if_pos O] at I
    rw [dF (show ¬ (1:Int) < (((Rat.divInt n d).den:Nat):Int) by omega)]
    unfold Qg.rat
    rw [I,M];rfl
   ·rw [if_neg O] at I
    rw [dT (show (1:Int) < (((Rat.divInt n d).den:Nat):Int) by omega)]
    unfold Qg.rat
    rw [I,M];rfl
  ·rw [dF aE,cond_false] at G
   rw [dF aE] at M
   by_cases a1:n=0
   ·rw [dT a1] at G
    rw [G,a1,Rat.zero_divInt,vo];rfl
   ·have U:rK n d n d false (ByteArray.mk #[]) (ByteArray.mk #[]) false (ByteArray.mk #[]) (ByteArray.mk #[]):= ⟨by omega,by omega⟩
    obtain ⟨_,J⟩:=Df _ _ _ _ _ _ _ _ _ _ U
    unfold rJ at J
    have a6:Int.tdiv n ((Nat.gcd n.natAbs d.natAbs:Nat):Int)=((n.natAbs / Nat.gcd n.natAbs d.natAbs:Nat):Int):=by
     have:n=((n.natAbs:Nat):Int):=by omega
     rw [this];rfl
    rw [JI _ _ _ _ _ _ _ _ _ _ U,J,a6,bx,← Z,← ab,dF a1,dF (show ¬ ((Nat.gcd n.natAbs d.natAbs:Nat):Int)=0 by omega)] at G
    rw [← Z] at l1
    rw [← ab] at l2
    rw [aJ (z:=(((Rat.divInt n d).num.natAbs:Nat):Int)) (by omega),dT (show (0:Int)≤(((Rat.divInt n d).num.natAbs:Nat):Int) by omega),dT (show (((Rat.divInt n d).num.natAbs:Nat):Int) < 72057594037927936 by omega),aJ (z:=(((Rat.divInt n d).den:Nat):Int)) (by omega),dT (show (0:Int)≤(((Rat.divInt n d).den:Nat):Int) by omega),dT (show (((Rat.divInt n d).den:Nat):Int) < 72057594037927936 by omega),Int.toNat_natCast,Int.toNat_natCast] at G
    rw [G]
    by_cases O:(Rat.divInt n d).den=1
    ·rw [if_pos O] at I
     rw [dF (show ¬ (1:Int) < (((Rat.divInt n d).den:Nat):Int) by omega)]
     unfold Qg.rat
     rw [I,M];rfl
    ·rw [if_neg O] at I
     rw [dT (show (1:Int) < (((Rat.divInt n d).den:Nat):Int) by omega)]
     unfold Qg.rat
     rw [I,M];rfl
 ·cases h
theorem GZ:bf Tryz.prog (wm aa):=((aK _).add tA).add Cb
theorem Zt (n d:ByteArray) (h:ad.br n d=true):aa.ok n=true∧aa.ok d=true:=by
 obtain ⟨G,I⟩:=yO h
 exact ⟨ph (by omega),ph (by omega)⟩
theorem Ce:Entry Tryz.prog 90 (vT aa ad):=by
 refine aZ (E:= ⟨wm aa,az,aq⟩) (u:=10) (d:=10) GZ aO mixed (by kernel_rfl) (fun args r h=> ?_)
 unfold vT nk at h
 split at h
 ·rename_i b n d
  simp only [Option.some.injEq,Prod.mk.injEq] at h
  obtain ⟨J,rfl⟩:=h
  obtain ⟨k1,M⟩:=Zt n d J
  have I:aa.val false d=(vS d:Nat):=rfl
  rw [abj]
  simp only [zU,Int.add_zero,tZ]
  rw [k1,M,yt,lY]
  unfold dn
  by_cases G:vS d=0
  ·rw [dT (show aa.val false d=0 by rw [I,G];rfl),if_pos G];rfl
  ·rw [dF (show ¬ aa.val false d=0 by rw [I];omega),if_neg G,← I];rfl
 ·cases h
theorem PA (s:ByteArray):aY.cL s=decide (s.size≤68719476736):=of_eq_true (eq_true rfl)
theorem nQ {z:Int} (h:bs z.natAbs≤68719476736):aY.cL (aa.ms z)=true:=by rw [PA,vD];exact decide_eq_true h
theorem LW {s:ByteArray} (h:aY.cL s=true):s.size≤68719476736:=by rw [PA,decide_eq_true_eq] at h;exact h
theorem VR:Entry Tryz.prog 128 (zp aa aY):=VS aY rfl rfl
theorem VP:Entry Tryz.prog 129 (zk aa aY):=VQ aY rfl rfl rfl rfl
theorem PQ:bf Tryz.prog (Ad aa aY):=((GZ.add VP).add VR).add Cd
theorem LH {n:Nat} :aF (aa.ms (n:Int)) (ByteArray.mk #[(1:UInt8)])=decide (n=1):=by
 have e:ByteArray.mk #[(1:UInt8)]=av 1:=(tX (ByteArray.mk #[(1:UInt8)]) (by show ¬ (1:UInt8)=0;decide)).symm
 rw [e,r4]
 refine decide_eq_decide.2 ?_
 have G:aa.ms (n:Int)=av n:=rfl
 rw [G]
 constructor
 ·intro h
  have:=congrArg vS h
  rwa [jg,jg] at this
 ·intro h;rw [h]
theorem Cf:Entry Tryz.prog 95 (vV aa aY ad):=by
 refine aZ (E:= ⟨Ad aa aY,az,aq⟩) (u:=10) (d:=10) PQ aO mixed (by kernel_rfl) (fun args r h=> ?_)
 unfold vV at h
 split at h
 ·rename_i b s c t
  simp only [Option.some.injEq,Prod.mk.injEq,Bool.and_eq_true,Bool.not_eq_true',decide_eq_false_iff_not] at h
  obtain ⟨⟨⟨Z,ab⟩,a1⟩,rfl⟩:=h
  have z1:=LW Z
  have z2:=LW ab
  have k1:=dI b s
  have a6:=dI c t
  have O:=aaK aa aY b c s t
  simp only [eW,zU,Int.add_zero,tZ,Pz,GL] at O
  rw [O]
  clear O
  generalize aa.val b s=x at*
  generalize aa.val c t=y at*
  have a7:=wT x
  have n2:=wT y
  have g1:=BE x y
  have g2:=BE (-x) (-y)
  have aE:ad.fr x y=Rat.divInt x y:=rfl
  rw [ph (s:=s) (by omega),ph (s:=t) (by omega),yt,bS (z:=x) (by omega),bS (z:=y) (by omega),nQ (z:=x) (by omega),nQ (z:=y) (by omega),nQ (z:= -x) (by omega),nQ (z:= -y) (by omega),nQ (z:=zg x y) (by omega),nQ (z:=zg (-x) (-y)) (by omega),aE]
  by_cases M:x=0
  ·rw [dT M,M,Rat.zero_divInt,vo];rfl
  ·rw [dF M,dj y]
   have I:=yN (Rat.divInt x y)
   by_cases U:y < 0
   ·obtain ⟨e1,J⟩:=GO (-x) (show 0 < -y by omega)
    rw [Rat.neg_divInt_neg] at e1 J
    rw [dT U,e1,J,LH]
    by_cases G:(Rat.divInt x y).den=1
    ·rw [if_pos G] at I
     rw [dT G]
     unfold Qg.rat
     rw [I];rfl
    ·rw [if_neg G] at I
     rw [dF G]
     unfold Qg.rat
     rw [I];rfl
   ·obtain ⟨e1,J⟩:=GO x (show 0 < y by omega)
    rw [dF U,e1,J,LH]
    by_cases G:(Rat.divInt x y).den=1
    ·rw [if_pos G] at I
     rw [dT G]
     unfold Qg.rat
     rw [I];rfl
    ·rw [if_neg G] at I
     rw [dF G]
     unfold Qg.rat
     rw [I];rfl
 ·cases h
theorem PS:bf Tryz.prog (wk aa aY ad):=((((aK _).add Cf).add Ce).add J5).add J8
theorem J4:Entry Tryz.prog 100 (zH ad):=by
 refine aZ (E:= ⟨wk aa aY ad,az,aq⟩) (u:=10) (d:=10) PS aO mixed (by kernel_rfl) (fun args r h=> ?_)
 unfold zH nk at h
 split at h
 ·rename_i b n d
  simp only [Option.some.injEq,Prod.mk.injEq] at h
  obtain ⟨I,rfl⟩:=h
  obtain ⟨z1,z2⟩:=yO I
  have k1:=dI b n
  have a6:=qx d
  have p1:=fM d
  have G:=Zi aa aY ad b n d
  have Z:∀ x y,ad.fr x y=Rat.divInt x y:=fun x y=>rfl
  simp only [eW,lY,Z] at G
  have J:Rat.divInt (aa.val b n) (dn d)=ad.qv b n d:=rfl
  rw [I,J,nQ (z:=aa.val b n) (by omega),nQ (z:=dn d) (by omega),dF (show ¬ dn d=0 by omega)] at G
  have U:∀ u:Bool,(u=true→ad.ms n d=true)→ad.ms n d=u→aG Tryz.prog ⟨wk aa aY ad,az,aq⟩ 10 10 100 [.agg [.val (.bool b), .val (.string n), .val (.string d)]]=some (ad.rat (ad.qv b n d)):=by
   intro u ab O
   rw [G,O]
   cases u
   ·rfl
   ·obtain ⟨_,_,e1,M,aE,a1⟩:=mr (ab rfl) b
    rw [e1,M,rf (z:=aa.val b n) (by omega),rf (z:=dn d) (by omega),dT p1,J]
    rfl
  exact U _ id rfl
 ·cases h
theorem PR:bf Tryz.prog (Ae aa aY ad):=(((((aK _).add Ce).add J4).add J3).add tA).add Cf
theorem J6:Entry Tryz.prog 51 (nk ad fun b n d=> .val (.int .i64 (ad.ck b n d))):=by
 refine aZ (E:= ⟨Ae aa aY ad,az,aq⟩) (u:=10) (d:=10) PR aO mixed (by kernel_rfl) (fun args r h=> ?_)
 unfold nk at h
 split at h
 ·rename_i b n d
  simp only [Option.some.injEq,Prod.mk.injEq] at h
  obtain ⟨I,rfl⟩:=h
  rw [abk,I]
  have J:ad.ck b n d=bif (b==ad.qn (ad.qv b n d))&&aF n (ad.qs (ad.qv b n d))&&aF d (ad.qd (ad.qv b n d)) then 0 else 1:=rfl
  have G:∀ s t:ByteArray,aF s t=aF t s:=fun s t=>by unfold aF;exact Bool.beq_comm
  rw [J,G n,G d,show (b==ad.qn (ad.qv b n d))=(ad.qn (ad.qv b n d)==b) from Bool.beq_comm]
  generalize (ad.qn (ad.qv b n d)==b)=M
  generalize aF (ad.qs (ad.qv b n d)) n=O
  generalize aF (ad.qd (ad.qv b n d)) d=U
  cases M <;> cases O <;> cases U <;> rfl
 ·cases h
end
end Go.Proofs.YtamcpiicmfielaaGreat.L
namespace Go.Proofs.YtamcpiicmfielaaGreat.L
open Go Go.V Go.RowKit Go.Proofs.YtamcpiicmfielaaGreat.Sp Go.Proofs.YtamcpiicmfielaaGreat.F
open Go.Proofs (Tryz.prog)
noncomputable section
def wj (S:Sg) (X:Xg) (G:Qg):FuncId→TF:=au 93 (pU G) (au 94 (pX G) (au 90 (vT S G) (au 95 (vV S X G) (au 102 (kB S) (au 96 (r7 S) (au 97 (oc S) (au 100 (zH G) aM)))))))
theorem PO:bf Tryz.prog (wj aa aY ad):=((((((((aK _).add J4).add J3).add VU).add Cb).add Cf).add Ce).add J5).add J8
theorem aaC (S:Sg) (X:Xg) (G:Qg) (b c:Bool) (n d m e:ByteArray):letI I:=(S.val (S.ng (S.val b n)) (S.ms (S.val b n))*S.val (S.ng (S.val false (G.fd e))) (S.ms (S.val false (G.fd e))));letI J:=(S.val (S.ng (S.val c m)) (S.ms (S.val c m))*S.val (S.ng (S.val false (G.fd d))) (S.ms (S.val false (G.fd d))));letI M:Option AV:=(bif G.br n d then (bif G.br m e then (bif S.ok (S.ms (S.val b n))&&S.ok (S.ms (S.val false (G.fd e))) then (bif S.ok (S.ms (S.val c m))&&S.ok (S.ms (S.val false (G.fd d))) then (bif S.ok (S.ms I)&&S.ok (S.ms J) then some (.val (.int .i64 (S.fK (S.val (S.ng I) (S.ms I)) (S.val (S.ng J) (S.ms J))))) else none) else none) else none) else none) else none);
  (aG Tryz.prog ⟨wj S X G,az,aq⟩ 10 10 48 [.agg [.val (.bool b), .val (.string n), .val (.string d)], .agg [.val (.bool c), .val (.string m), .val (.string e)]]=(bif G.ms n d then (bif G.ms m e then (bif ah IntKind.i64 (G.mn b n d*G.md m e) then (bif ah IntKind.i64 (G.mn c m e*G.md n d) then (bif decide (G.mn b n d*G.md m e < G.mn c m e*G.md n d) then some (.val (.int .i64 (-1))) else (bif ah IntKind.i64 (G.mn b n d*G.md m e) then (bif ah IntKind.i64 (G.mn c m e*G.md n d) then (bif decide (G.mn c m e*G.md n d < G.mn b n d*G.md m e) then some (.val (.int .i64 1)) else some (.val (.int .i64 0))) else none) else none)) else none) else none) else M) else M)):=by kernel_rfl
end
end Go.Proofs.YtamcpiicmfielaaGreat.L
namespace Go.Proofs.YtamcpiicmfielaaGreat.L
open Go Go.V Go.RowKit Go.Proofs.YtamcpiicmfielaaGreat.Sp Go.Proofs.YtamcpiicmfielaaGreat.F
open Go.Proofs (Tryz.prog)
noncomputable section
theorem adX {n d m e:ByteArray} (G:ad.br n d=true) (I:ad.br m e=true):∀ (b c:Bool),
  bs (aa.val b n).natAbs≤1073741824∧bs (aa.val c m).natAbs≤1073741824∧bs (dn d).natAbs≤1073741824∧bs (dn e).natAbs≤1073741824:=by
 intro b c
 obtain ⟨z1,z2⟩:=yO G
 obtain ⟨z3,z4⟩:=yO I
 have J:=dI b n
 have M:=dI c m
 have O:=qx d
 have U:=qx e
 exact ⟨by omega,by omega,by omega,by omega⟩
def FB (G:Qg):TF:=O3 G fun x y=> .val (.int .i64 (G.cq x y))
theorem VN:Entry Tryz.prog 48 (FB ad):=by
 refine aZ (E:= ⟨wj aa aY ad,az,aq⟩) (u:=10) (d:=10) PO aO mixed (by kernel_rfl) (fun args r h=> ?_)
 unfold FB O3 at h
 split at h
 ·rename_i b n d c m e
  simp only [Option.some.injEq,Prod.mk.injEq,Bool.and_eq_true] at h
  obtain ⟨⟨I,J⟩,rfl⟩:=h
  have G:=aaC aa aY ad b c n d m e
  obtain ⟨b3,b4,b5,b6⟩:=adX I J b c
  have p1:=fM d
  have p2:=fM e
  have M:ad.cq (ad.qv b n d) (ad.qv c m e)=cQ (aa.val b n*dn e) (aa.val c m*dn d):=B2 _ _ p1 p2
  have q1:=dV (aa.val b n) (dn e)
  have q2:=dV (aa.val c m) (dn d)
  simp only [eW,lY] at G
  rw [I,J,bS (z:=aa.val b n) (by omega),bS (z:=aa.val c m) (by omega),bS (z:=dn d) (by omega),bS (z:=dn e) (by omega),bS (z:=aa.val b n*dn e) (by omega),bS (z:=aa.val c m*dn d) (by omega)] at G
  have b0:aa.fK (aa.val b n*dn e) (aa.val c m*dn d)=ad.cq (ad.qv b n d) (ad.qv c m e):=M.symm
  rw [b0] at G
  have a7:∀ u v:Bool,(u=true→ad.ms n d=true)→(v=true→ad.ms m e=true)→ad.ms n d=u→ad.ms m e=v→aG Tryz.prog ⟨wj aa aY ad,az,aq⟩ 10 10 48 [.agg [.val (.bool b), .val (.string n), .val (.string d)], .agg [.val (.bool c), .val (.string m), .val (.string e)]]=some (.val (.int .i64 (ad.cq (ad.qv b n d) (ad.qv c m e)))):=by
   intro u v bx bD a1 a6
   rw [G,a1,a6]
   cases u
   ·rfl
   ·cases v
    ·rfl
    ·obtain ⟨_,_,e1,Z,O,b1⟩:=mr (bx rfl) b
     obtain ⟨_,_,ab,aE,U,b2⟩:=mr (bD rfl) c
     rw [e1,Z,ab,aE]
     have b7:=mu (x:=aa.val b n) (y:=dn e) O (by omega)
     have m2:=mu (x:=aa.val c m) (y:=dn d) U (by omega)
     rw [aJ (z:=aa.val b n*dn e) (by omega),aJ (z:=aa.val c m*dn d) (by omega),M]
     unfold cQ
     by_cases g1:aa.val b n*dn e < aa.val c m*dn d
     ·rw [dT g1,if_pos g1];rfl
     ·rw [dF g1,if_neg g1]
      by_cases g2:aa.val c m*dn d < aa.val b n*dn e
      ·rw [dT g2,if_pos g2];rfl
      ·rw [dF g2,if_neg g2];rfl
  exact a7 _ _ id id rfl rfl
 ·cases h
end
end Go.Proofs.YtamcpiicmfielaaGreat.L
