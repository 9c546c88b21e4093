import Derived.Test.YtamcpiicmfielaaGreatZQA
import Derived.Test.YtamcpiicmfielaaGreatZNB
import Derived.Test.YtamcpiicmfielaaGreatZNA
import Derived.Test.YtamcpiicmfielaaGreatZQB
set_option linter.unusedVariables false
set_option linter.unusedSimpArgs false
namespace Go.Proofs.YtamcpiicmfielaaGreat.L
open Go Go.V Go.RowKit Go.Proofs.YtamcpiicmfielaaGreat.Sp Go.Proofs.YtamcpiicmfielaaGreat.F
open Go.Proofs (Tryz.prog)
noncomputable section
def jb (j:Qg) (f:Bool→ByteArray→ByteArray→AV):TF:=fun args=>match args with | [.agg [.val (.bool b), .val (.string n), .val (.string d)]]=>some (j.aL n d,f b n d) | _=>none
def fx (j:Qg) (f:Rat→Rat→AV):TF:=fun args=>match args with | [.agg [.val (.bool b), .val (.string n), .val (.string d)], .agg [.val (.bool c), .val (.string m), .val (.string e)]]=>some (j.aL n d&&j.aL m e,f (j.qv b n d) (j.qv c m e)) | _=>none
def pK (j:Sg) (G:Qg):TF:=jb G fun b n d=> .tup [j.int (j.val b n),j.int (j.val false (G.fd d))]
def vJ (j:Sg) (X:Xg) (G:Qg):TF:=fun args=>match args with | [.agg [.val (.bool b), .val (.string s)], .agg [.val (.bool c), .val (.string t)]]=>some (X.cj s&&X.cj t&& !decide (j.val c t=0),G.rat (G.fr (j.val b s) (j.val c t))) | _=>none
def za (j:Sg):TF:=fun args=>match args with | [.val (.int .i64 n)]=>some (decide (0≤n)&&decide (n < 72057594037927936), .val (.string (j.mg n.toNat))) | _=>none
def zi (j:Qg):TF:=jb j fun b n d=>j.rat (j.qv b n d)
abbrev fP:List Bool:= [false,true,false,true,true]
def j8 (s:ByteArray) (v:Int) (i:Int):List AV:=av 19 [(0, .val (.string s)),(3, .val (.int .i64 v)),(4, .val (.int .i64 i))]
def js (s:ByteArray) (v:Int) (i:Int):Hp:= []
theorem Rq:aJ Tryz.prog 125 fP=some (.loop (lb 125 fP)):=by kernel_rfl
theorem SZ:aJ Tryz.prog 125 (false :: fP)=some (lb 125 fP):=by kernel_rfl
theorem Nc (s:ByteArray) (v:Int) (i:Int):aN Tryz.prog bj 125 [0,3,4] (lb 125 fP) (false :: fP) (j8 s v i) (js s v i)=
  (bif decide (i < (↑s.size:Int)) then (bif aj IntKind.i64 ((256:Int)*v) then (bif decide ((0:Int)≤i)&&decide (i < (↑s.size:Int)) then (bif aj IntKind.i64 (aR s i.toNat) then (bif aj IntKind.i64 ((256:Int)*v+aR s i.toNat) then (bif aj IntKind.i64 (i+(1:Int)) then some (.normal,av 19 [(0,(.val (.string s))),(3,(.val (.int .i64 ((256:Int)*v+aR s i.toNat)))),(4,(.val (.int .i64 (i+(1:Int)))))], []) else none) else none) else none) else none) else none) else some ((.exit 0),av 19 [(0,(.val (.string s))),(3,(.val (.int .i64 v))),(4,(.val (.int .i64 i)))], [])):=by kernel_rfl
theorem Of {s:ByteArray} {v:Int} {i:Int} {e:Ex} {T:List AV} {H:Hp} (h:aN Tryz.prog bj 125 [0,3,4] (lb 125 fP) (false :: fP) (j8 s v i) (js s v i)=some (e,T,H)):V.Ends Tryz.prog false 0 0 (lb 125 fP) (j8 s v i) (js s v i) e T H:=
 bw (aH _) aK mixed SZ h
def uu (s:ByteArray) (v i:Int):Prop:=s.size≤3∧v=0∧i=0
def Dr (s:ByteArray) (v i:Int) (r:Int×Int):Prop:=r.1=(vS s:Nat)
theorem YV (s:ByteArray) (Z:s.size≤3) (d:Nat):∀ i:Nat,i+d=s.size→∃ r:Int×Int,aw Tryz.prog (lb 125 fP) (j8 s (vB (s.data.toList.take i):Nat) i) (js s (vB (s.data.toList.take i):Nat) i) (.exit 0) (j8 s r.1 r.2) (js s r.1 r.2)∧r.1=(vS s:Nat):=by
 induction d with
 | zero=>
  intro i N
  have O:i=s.size:=by omega
  subst O
  have e:s.data.toList.take s.size=s.data.toList:=List.take_of_length_le (by rw [Array.length_toList];exact Nat.le_refl _)
  refine ⟨((vB (s.data.toList.take s.size):Nat),(s.size:Int)), .last (Of ?_) (by intro h;cases h),by rw [e];rfl⟩
  rw [Nc,dF (show ¬ ((s.size:Int) < s.size) by omega)]
  rfl
 | succ d U=>
  intro i N
  obtain ⟨r,I,J⟩:=U (i+1) (by omega)
  refine ⟨r, .more (Of ?_) I,J⟩
  rw [Nc]
  have M:=lj s i
  have S:=pO s i (by omega)
  have G:=GR s.data.toList (i+1)
  have G:vB (s.data.toList.take (i+1))≤vS s:=G
  have ab:=pP (s:=s) (by omega)
  obtain ⟨c,j⟩:∃ c:Nat,aR s i=c:= ⟨(aR s i).toNat,by omega⟩
  rw [j] at M S
  have e:((vB (s.data.toList.take (i+1)):Nat):Int)=256*((vB (s.data.toList.take i):Nat):Int)+(c:Int):=by omega
  rw [Int.toNat_natCast,j,aO (z:=256*((vB (s.data.toList.take i):Nat):Int)) (by omega),aO (z:=(c:Int)) (by omega),aO (z:=256*((vB (s.data.toList.take i):Nat):Int)+(c:Int)) (by omega),aO (z:=(i:Int)+1) (by omega),dT (show (i:Int) < s.size by omega),dT (show (0:Int)≤(i:Int) by omega)]
  rw [e]
  rfl
theorem XX (s:ByteArray) (v i:Int) (h:uu s v i):∃ r:Int×Int,aw Tryz.prog (lb 125 fP) (j8 s v i) (js s v i) (.exit 0) (j8 s r.1 r.2) (js s r.1 r.2)∧Dr s v i r:=by
 obtain ⟨j,rfl,rfl⟩:=h
 exact YV s j s.size 0 (by omega)
def Gc (G:ByteArray→Int→Int→Bool) (j:ByteArray→Int→Int→Int×Int) (T:List AV) (H:Hp):Option (Bool×Ex×List AV×Hp):=
 match al T 0,al T 3,al T 4,H with
 | .val (.string s), .val (.int .i64 v), .val (.int .i64 i), []=>bif T.length==19 then some (G s v i, .exit 0,j8 s ((j s v i).1) ((j s v i).2),js s ((j s v i).1) ((j s v i).2)) else none
 | _,_,_,_=>none
abbrev Iy:Type:=ByteArray→Int→Int→Bool
abbrev HX:Type:=ByteArray→Int→Int→Int×Int
def A2 (j:Iy) (G:HX) (L:aE):aE:=bp 0 125 fP [0,3,4] (Gc j G) L
def mG (s:ByteArray) (v:Int) (i:Int):Int×Int:=Classical.epsilon fun ρ=>aw Tryz.prog (lb 125 fP) (j8 s v i) (js s v i) (.exit 0) (j8 s (ρ.1) (ρ.2)) (js s (ρ.1) (ρ.2))∧Dr s v i ρ
theorem Mq (s:ByteArray) (v:Int) (i:Int) (h:uu s v i):aw Tryz.prog (lb 125 fP) (j8 s v i) (js s v i) (.exit 0) (j8 s ((mG s v i).1) ((mG s v i).2)) (js s ((mG s v i).1) ((mG s v i).2))∧Dr s v i (mG s v i):=Classical.epsilon_spec (XX s v i h)
def xe (s:ByteArray) (v:Int) (i:Int):Bool:= @decide (uu s v i) (Classical.propDecidable _)
theorem TX (s:ByteArray) (v:Int) (i:Int) (h:uu s v i):xe s v i=true:= @decide_eq_true _ (Classical.propDecidable _) h
theorem ads (T:List AV) (H:Hp) (e:Ex) (I:List AV) (G:Hp) (h:Gc xe mG T H=some (true,e,I,G)):V.Ends Tryz.prog false 0 0 (.loop (lb 125 fP)) T H e I G:=by
 unfold Gc at h
 split at h
 ·rename_i s v i N O S
  rw [Bool.cond_eq_ite] at h
  split at h
  ·rename_i J
   rw [beq_iff_eq] at J
   simp only [Option.some.injEq,Prod.mk.injEq,Bool.and_eq_true,decide_eq_true_eq] at h
   obtain ⟨k1,rfl,rfl,rfl⟩:=h
   have Z:= @of_decide_eq_true _ (Classical.propDecidable _) k1
   refine Ends.pre (Mq s v i Z).1.ends (fun α B w D ab U=>bm J (fun p M y j=> ?_) U)
   simp only [List.mem_cons,List.not_mem_nil,or_false] at M
   rcases M with rfl | rfl | rfl
   ·rw [N] at j;exact j
   ·rw [O] at j;exact j
   ·rw [S] at j;exact j
  ·cases h
 ·cases h
theorem Qj {L:aE} (h:aB Tryz.prog L):aB Tryz.prog (A2 xe mG L):=h.br Rq ads
theorem YU (j:Iy) (G:HX) (s:ByteArray):aD Tryz.prog ⟨aF,ar,A2 j G aq⟩ 10 10 125 [.val (.string s)]=
  (bif j s (0:Int) (0:Int) then some (.val (.int .i64 ((G s (0:Int) (0:Int)).fst))) else none):=by kernel_rfl
theorem VQ:Entry Tryz.prog 125 (pG aa):=by
 refine aX (E:= ⟨aF,ar,A2 xe mG aq⟩) (u:=10) (d:=10) (aH _) (Qj aB.none).ok mixed (by kernel_rfl) (fun args r h=> ?_)
 unfold pG at h
 split at h
 ·rename_i s
  simp only [Option.some.injEq,Prod.mk.injEq,decide_eq_true_eq] at h
  obtain ⟨I,rfl⟩:=h
  have G:uu s 0 0:= ⟨I,rfl,rfl⟩
  have j:=(Mq _ _ _ G).2
  have j:(mG s 0 0).1=(vS s:Nat):=j
  rw [YU,TX _ _ _ G,j]
  rfl
 ·cases h
theorem abc (j:Sg) (b:Bool) (n d:ByteArray):aD Tryz.prog ⟨an 125 (pG j) aF,ar,aq⟩ 10 10 93 [.agg [.val (.bool b), .val (.string n), .val (.string d)]]=
  (bif decide ((3:Int) < (↑n.size:Int)) then some (.tup [(.val (.int .i64 0)),(.val (.int .i64 0)),(.val (.bool false))]) else (bif decide ((3:Int) < (↑d.size:Int)) then some (.tup [(.val (.int .i64 0)),(.val (.int .i64 0)),(.val (.bool false))]) else (bif decide (n.size≤(3:Nat)) then (bif decide (d.size≤(3:Nat)) then (bif decide ((↑(j.vs d):Int)=(0:Int)) then (bif b then some (.tup [(.val (.int .i64 (IntKind.i64.wrap ((0:Int) - (↑(j.vs n):Int))))),(.val (.int .i64 1)),(.val (.bool true))]) else some (.tup [(.val (.int .i64 ((↑(j.vs n):Int)))),(.val (.int .i64 1)),(.val (.bool true))])) else (bif b then some (.tup [(.val (.int .i64 (IntKind.i64.wrap ((0:Int) - (↑(j.vs n):Int))))),(.val (.int .i64 ((↑(j.vs d):Int)))),(.val (.bool true))]) else some (.tup [(.val (.int .i64 ((↑(j.vs n):Int)))),(.val (.int .i64 ((↑(j.vs d):Int)))),(.val (.bool true))]))) else none) else none))):=by kernel_rfl
theorem Z9 (n:Int):letI M:=(n.fdiv (4294967296:Int));letI I:=(n.fdiv (16777216:Int));letI Z:=(ofBytes [IntKind.u8.wrap (n.fdiv (281474976710656:Int)),IntKind.u8.wrap (n.fdiv (1099511627776:Int)),IntKind.u8.wrap M,IntKind.u8.wrap I,IntKind.u8.wrap (n.fdiv (65536:Int)),IntKind.u8.wrap (n.fdiv (256:Int)),IntKind.u8.wrap (n.fdiv (1:Int))]);letI S:Option AV:=(bif decide ((0:Int) < (n.fdiv (1:Int)).tmod (256:Int)) then some (.val (.string Z)) else some (.val (.string Z)));letI j:Option AV:=(bif decide ((0:Int) < (n.fdiv (256:Int)).tmod (256:Int)) then S else S);letI a0:=(ofBytes [IntKind.u8.wrap (n.fdiv (1099511627776:Int)),IntKind.u8.wrap M,IntKind.u8.wrap I,IntKind.u8.wrap (n.fdiv (65536:Int)),IntKind.u8.wrap (n.fdiv (256:Int)),IntKind.u8.wrap (n.fdiv (1:Int))]);letI G:Option AV:=(bif decide ((0:Int) < (n.fdiv (1:Int)).tmod (256:Int)) then some (.val (.string a0)) else some (.val (.string a0)));letI a1:=(ofBytes [IntKind.u8.wrap M,IntKind.u8.wrap I,IntKind.u8.wrap (n.fdiv (65536:Int)),IntKind.u8.wrap (n.fdiv (256:Int)),IntKind.u8.wrap (n.fdiv (1:Int))]);letI J:Option AV:=(bif decide ((0:Int) < (n.fdiv (1:Int)).tmod (256:Int)) then some (.val (.string a1)) else some (.val (.string a1)));letI O:=(ofBytes [IntKind.u8.wrap I,IntKind.u8.wrap (n.fdiv (65536:Int)),IntKind.u8.wrap (n.fdiv (256:Int)),IntKind.u8.wrap (n.fdiv (1:Int))]);letI N:Option AV:=(bif decide ((0:Int) < (n.fdiv (1:Int)).tmod (256:Int)) then some (.val (.string O)) else some (.val (.string O)));letI U:=(ofBytes [IntKind.u8.wrap (n.fdiv (65536:Int)),IntKind.u8.wrap (n.fdiv (256:Int)),IntKind.u8.wrap (n.fdiv (1:Int))]);letI ab:Option AV:=(bif decide ((0:Int) < (n.fdiv (1:Int)).tmod (256:Int)) then some (.val (.string U)) else some (.val (.string U)));
  (aD Tryz.prog ⟨aF,fun _=>false,aq⟩ 10 10 126 [.val (.int .i64 n)]=(bif decide ((0:Int) < (n.fdiv (281474976710656:Int)).tmod (256:Int)) then (bif decide ((0:Int) < (n.fdiv (1099511627776:Int)).tmod (256:Int)) then (bif decide ((0:Int) < M.tmod (256:Int)) then (bif decide ((0:Int) < I.tmod (256:Int)) then (bif decide ((0:Int) < (n.fdiv (65536:Int)).tmod (256:Int)) then j else j) else (bif decide ((0:Int) < (n.fdiv (65536:Int)).tmod (256:Int)) then j else j)) else (bif decide ((0:Int) < I.tmod (256:Int)) then (bif decide ((0:Int) < (n.fdiv (65536:Int)).tmod (256:Int)) then j else j) else (bif decide ((0:Int) < (n.fdiv (65536:Int)).tmod (256:Int)) then j else j))) else (bif decide ((0:Int) < M.tmod (256:Int)) then (bif decide ((0:Int) < I.tmod (256:Int)) then (bif decide ((0:Int) < (n.fdiv (65536:Int)).tmod (256:Int)) then j else j) else (bif decide ((0:Int) < (n.fdiv (65536:Int)).tmod (256:Int)) then j else j)) else (bif decide ((0:Int) < I.tmod (256:Int)) then (bif decide ((0:Int) < (n.fdiv (65536:Int)).tmod (256:Int)) then j else j) else (bif decide ((0:Int) < (n.fdiv (65536:Int)).tmod (256:Int)) then j else j)))) else (bif decide ((0:Int) < (n.fdiv (1099511627776:Int)).tmod (256:Int)) then (bif decide ((0:Int) < M.tmod (256:Int)) then (bif decide ((0:Int) < I.tmod (256:Int)) then (bif decide ((0:Int) < (n.fdiv (65536:Int)).tmod (256:Int)) then (bif decide ((0:Int) < (n.fdiv (256:Int)).tmod (256:Int)) then G else G) else (bif decide ((0:Int) < (n.fdiv (256:Int)).tmod (256:Int)) then G else G)) else (bif decide ((0:Int) < (n.fdiv (65536:Int)).tmod (256:Int)) then (bif decide ((0:Int) < (n.fdiv (256:Int)).tmod (256:Int)) then G else G) else (bif decide ((0:Int) < (n.fdiv (256:Int)).tmod (256:Int)) then G else G))) else (bif decide ((0:Int) < I.tmod (256:Int)) then (bif decide ((0:Int) < (n.fdiv (65536:Int)).tmod (256:Int)) then (bif decide ((0:Int) < (n.fdiv (256:Int)).tmod (256:Int)) then G else G) else (bif decide ((0:Int) < (n.fdiv (256:Int)).tmod (256:Int)) then G else G)) else (bif decide ((0:Int) < (n.fdiv (65536:Int)).tmod (256:Int)) then (bif decide ((0:Int) < (n.fdiv (256:Int)).tmod (256:Int)) then G else G) else (bif decide ((0:Int) < (n.fdiv (256:Int)).tmod (256:Int)) then G else G)))) else (bif decide ((0:Int) < M.tmod (256:Int)) then (bif decide ((0:Int) < I.tmod (256:Int)) then (bif decide ((0:Int) < (n.fdiv (65536:Int)).tmod (256:Int)) then (bif decide ((0:Int) < (n.fdiv (256:Int)).tmod (256:Int)) then J else J) else (bif decide ((0:Int) < (n.fdiv (256:Int)).tmod (256:Int)) then J else J)) else (bif decide ((0:Int) < (n.fdiv (65536:Int)).tmod (256:Int)) then (bif decide ((0:Int) < (n.fdiv (256:Int)).tmod (256:Int)) then J else J) else (bif decide ((0:Int) < (n.fdiv (256:Int)).tmod (256:Int)) then J else J))) else (bif decide ((0:Int) < I.tmod (256:Int)) then (bif decide ((0:Int) < (n.fdiv (65536:Int)).tmod (256:Int)) then (bif decide ((0:Int) < (n.fdiv (256:Int)).tmod (256:Int)) then N else N) else (bif decide ((0:Int) < (n.fdiv (256:Int)).tmod (256:Int)) then N else N)) else (bif decide ((0:Int) < (n.fdiv (65536:Int)).tmod (256:Int)) then (bif decide ((0:Int) < (n.fdiv (256:Int)).tmod (256:Int)) then ab else ab) else (bif decide ((0:Int) < (n.fdiv (256:Int)).tmod (256:Int)) then (bif decide ((0:Int) < (n.fdiv (1:Int)).tmod (256:Int)) then some (.val (.string (ofBytes [IntKind.u8.wrap (n.fdiv (256:Int)),IntKind.u8.wrap (n.fdiv (1:Int))]))) else some (.val (.string (ofBytes [IntKind.u8.wrap (n.fdiv (256:Int)),IntKind.u8.wrap (n.fdiv (1:Int))])))) else (bif decide ((0:Int) < (n.fdiv (1:Int)).tmod (256:Int)) then some (.val (.string (ofBytes [IntKind.u8.wrap (n.fdiv (1:Int))]))) else some (.val (.string (ofBytes []))))))))))):=by kernel_rfl
def bl (n:Nat):Nat→List Int
 | 0=> []
 | k+1=>bl (n / 256) k ++ [((n % 256:Nat):Int)]
theorem Jv:∀ (k n:Nat),n < 256 ^ k→(k=0∨256 ^ (k - 1)≤n)→(bl n k).map (fun z=>UInt8.ofNat z.toNat)=toB n
 | 0,n,h,_=>by
  have:n=0:=by simpa using h
  subst this
  rw [toB_zero];rfl
 | k+1,n,h,j=>by
  have G:256 ^ k≤n:=by
   rcases j with j | j
   ·omega
   ·exact j
  have M:0 < 256 ^ k:=Nat.pow_pos (by decide)
  have I:n / 256 < 256 ^ k:=by rw [Nat.div_lt_iff_lt_mul (by decide),← Nat.pow_succ];exact h
  have J:k=0∨256 ^ (k - 1)≤n / 256:=by
   rcases Nat.eq_zero_or_pos k with e | e
   ·exact .inl e
   ·right
    rw [Nat.le_div_iff_mul_le (by decide),← Nat.pow_succ,show (k - 1).succ=k by omega]
    exact G
  rw [toB_pos (by omega),← Jv k (n / 256) I J]
  show (bl (n / 256) k ++ [((n % 256:Nat):Int)]).map _=_
  rw [List.map_append]
  refine congrArg (_ ++ ·) ?_
  show [UInt8.ofNat (n % 256)]= [UInt8.ofNat n]
  refine congrArg (fun x=> [x]) ?_
  apply UInt8.toNat_inj.1
  rw [UInt8.toNat_ofNat',UInt8.toNat_ofNat']
  omega
theorem nf {k n:Nat} {zs:List Int} (e:zs=bl n k) (h:n < 256 ^ k) (j:k=0∨256 ^ (k - 1)≤n):ofBytes zs=az n:=by
 rw [e];exact LI (Jv k n h j)
theorem Um {α:Type} (u:Bool) (x:α):(bif u then x else x)=x:=by cases u <;> rfl
theorem VI:Entry Tryz.prog 126 (za aa):=by
 refine aX (E:= ⟨aF,fun _=>false,aq⟩) (u:=10) (d:=10) (aH _) aK mixed (by kernel_rfl) (fun args r h=> ?_)
 unfold za at h
 split at h
 ·rename_i z
  simp only [Option.some.injEq,Prod.mk.injEq,Bool.and_eq_true,decide_eq_true_eq] at h
  obtain ⟨⟨a3,a6⟩,rfl⟩:=h
  obtain ⟨n,rfl⟩:=Int.eq_ofNat_of_zero_le a3
  have a4:n < 72057594037927936:=by omega
  rw [Int.toNat_natCast,Z9]
  simp only [Um]
  have a2:(n:Int).fdiv (281474976710656:Int)=((n / 281474976710656:Nat):Int):=gA n 281474976710656
  have a1:(n:Int).fdiv (1099511627776:Int)=((n / 1099511627776:Nat):Int):=gA n 1099511627776
  have a0:(n:Int).fdiv (4294967296:Int)=((n / 4294967296:Nat):Int):=gA n 4294967296
  have ab:(n:Int).fdiv (16777216:Int)=((n / 16777216:Nat):Int):=gA n 16777216
  have Z:(n:Int).fdiv (65536:Int)=((n / 65536:Nat):Int):=gA n 65536
  have U:(n:Int).fdiv (256:Int)=((n / 256:Nat):Int):=gA n 256
  have f0:(n:Int).fdiv (1:Int)=(n:Int):=by rw [Int.fdiv_one]
  have a5:∀ k:Nat,((k:Nat):Int).tmod (256:Int)=((k % 256:Nat):Int):=fun k=>rfl
  rw [a2,a1,a0,ab,Z,U,f0]
  simp only [a5,kC]
  have j:∀ zs,ofBytes zs=az n→some (AV.val (.string (ofBytes zs)))=some (AV.val (.string (aa.mg n))):=fun zs h=>by rw [h];rfl
  by_cases S:281474976710656≤n
  ·rw [dT (show (0:Int) < ((n / 281474976710656 % 256:Nat):Int) by omega)]
   exact j _ (nf (k:=7) (by simp [bl,Nat.div_div_eq_div_mul]) a4 (.inr S))
  ·rw [dF (show ¬ (0:Int) < ((n / 281474976710656 % 256:Nat):Int) by omega)]
   by_cases O:1099511627776≤n
   ·rw [dT (show (0:Int) < ((n / 1099511627776 % 256:Nat):Int) by omega)]
    exact j _ (nf (k:=6) (by simp [bl,Nat.div_div_eq_div_mul]) (show n < 281474976710656 by omega) (.inr O))
   ·rw [dF (show ¬ (0:Int) < ((n / 1099511627776 % 256:Nat):Int) by omega)]
    by_cases N:4294967296≤n
    ·rw [dT (show (0:Int) < ((n / 4294967296 % 256:Nat):Int) by omega)]
     exact j _ (nf (k:=5) (by simp [bl,Nat.div_div_eq_div_mul]) (show n < 1099511627776 by omega) (.inr N))
    ·rw [dF (show ¬ (0:Int) < ((n / 4294967296 % 256:Nat):Int) by omega)]
     by_cases M:16777216≤n
     ·rw [dT (show (0:Int) < ((n / 16777216 % 256:Nat):Int) by omega)]
      exact j _ (nf (k:=4) (by simp [bl,Nat.div_div_eq_div_mul]) (show n < 4294967296 by omega) (.inr M))
     ·rw [dF (show ¬ (0:Int) < ((n / 16777216 % 256:Nat):Int) by omega)]
      by_cases J:65536≤n
      ·rw [dT (show (0:Int) < ((n / 65536 % 256:Nat):Int) by omega)]
       exact j _ (nf (k:=3) (by simp [bl,Nat.div_div_eq_div_mul]) (show n < 16777216 by omega) (.inr J))
      ·rw [dF (show ¬ (0:Int) < ((n / 65536 % 256:Nat):Int) by omega)]
       by_cases I:256≤n
       ·rw [dT (show (0:Int) < ((n / 256 % 256:Nat):Int) by omega)]
        exact j _ (nf (k:=2) (by simp [bl,Nat.div_div_eq_div_mul]) (show n < 65536 by omega) (.inr I))
       ·rw [dF (show ¬ (0:Int) < ((n / 256 % 256:Nat):Int) by omega)]
        by_cases G:0 < n
        ·rw [dT (show (0:Int) < ((n % 256:Nat):Int) by omega)]
         exact j _ (nf (k:=1) (by simp [bl]) (show n < 256 by omega) (.inr G))
        ·rw [dF (show ¬ (0:Int) < ((n % 256:Nat):Int) by omega)]
         exact j _ (nf (k:=0) rfl (show n < 1 by omega) (.inl rfl))
 ·cases h
theorem Kj:Entry Tryz.prog 93 (pH ad):=by
 refine aX (E:= ⟨an 125 (pG aa) aF,ar,aq⟩) (u:=10) (d:=10) ((aH _).add VQ) aK mixed (by kernel_rfl) (fun args r h=> ?_)
 unfold pH at h
 split at h
 ·rename_i b n d
  simp only [Option.some.injEq,Prod.mk.injEq,true_and] at h
  subst h
  rw [abc]
  have Z:∀ x y:ByteArray,ad.ms x y=gq x y:=fun x y=>rfl
  have O:ad.mn b n d=bif gq n d then aa.val b n else 0:=rfl
  have M:ad.md n d=bif gq n d then dn d else 0:=rfl
  rw [Z,O,M]
  unfold gq
  by_cases I:n.size≤3
  ·by_cases J:d.size≤3
   ·rw [dF (show ¬ (3:Int) < n.size by omega),dF (show ¬ (3:Int) < d.size by omega),dT I,dT J]
    have j:=pP (s:=n) (by omega)
    have j:aa.vs n < _:=j
    have S:∀ b,aa.val b n=if b=true then -(aa.vs n:Int) else (aa.vs n:Int):=fun b=>rfl
    have U:IntKind.i64.wrap (0 - ((aa.vs n:Nat):Int))= -((aa.vs n:Nat):Int):=by rw [IntKind.wrap_i64];omega
    have N:dn d=if aa.vs d=0 then 1 else (aa.vs d:Int):=rfl
    rw [N,U,S]
    by_cases G:aa.vs d=0
    ·rw [dT (show ((aa.vs d:Nat):Int)=0 by omega),if_pos G]
     cases b <;> rfl
    ·rw [dF (show ¬ ((aa.vs d:Nat):Int)=0 by omega),if_neg G]
     cases b <;> rfl
   ·rw [dF (show ¬ (3:Int) < n.size by omega),dT (show (3:Int) < d.size by omega),dF J,Bool.and_false];rfl
  ·rw [dT (show (3:Int) < n.size by omega),dF I];rfl
 ·cases h
end
end Go.Proofs.YtamcpiicmfielaaGreat.L
namespace Go.Proofs.YtamcpiicmfielaaGreat.L
open Go Go.V Go.RowKit Go.Proofs.YtamcpiicmfielaaGreat.Sp Go.Proofs.YtamcpiicmfielaaGreat.F
open Go.Proofs (Tryz.prog)
noncomputable section
abbrev fQ:List Bool:= [false,false,true,true,true,true,true]
def j9 (n:Int) (d:Int) (a:Int) (c:Int) (I:Bool) (M:ByteArray) (J:ByteArray) (j:Bool) (G:ByteArray) (rd:ByteArray):List AV:=av 41 [(0, .val (.int .i64 n)),(1, .val (.int .i64 d)),(4, .ptr 0 0),(5, .ptr 1 0),(6, .val (.int .i64 a)),(7, .val (.int .i64 c))]
def jt (n:Int) (d:Int) (a:Int) (c:Int) (I:Bool) (M:ByteArray) (J:ByteArray) (j:Bool) (G:ByteArray) (rd:ByteArray):Hp:= [.row (.cells [.val (.bool I), .val (.string M), .val (.string J)]) 27 .live, .row (.cells [.val (.bool j), .val (.string G), .val (.string rd)]) 27 .live]
theorem Rs:aJ Tryz.prog 94 fQ=some (.loop (lb 94 fQ)):=by kernel_rfl
theorem S0:aJ Tryz.prog 94 (false :: fQ)=some (lb 94 fQ):=by kernel_rfl
theorem aaN (n:Int) (d:Int) (a:Int) (c:Int) (I:Bool) (M:ByteArray) (J:ByteArray) (j:Bool) (G:ByteArray) (rd:ByteArray):aN Tryz.prog bj 94 [0,1,4,5,6,7] (lb 94 fQ) (false :: fQ) (j9 n d a c I M J j G rd) (jt n d a c I M J j G rd)=
  (bif decide ((0:Int) < c) then (bif decide (c=(0:Int)) then none else some (.normal,av 41 [(0,(.val (.int .i64 n))),(1,(.val (.int .i64 d))),(4,(.ptr 0 0)),(5,(.ptr 1 0)),(6,(.val (.int .i64 c))),(7,(.val (.int .i64 (a.tmod c))))], [(.row (.cells [(.val (.bool I)),(.val (.string M)),(.val (.string J))]) 27 .live),(.row (.cells [(.val (.bool j)),(.val (.string G)),(.val (.string rd))]) 27 .live)])) else some ((.exit 0),av 41 [(0,(.val (.int .i64 n))),(1,(.val (.int .i64 d))),(4,(.ptr 0 0)),(5,(.ptr 1 0)),(6,(.val (.int .i64 a))),(7,(.val (.int .i64 c)))], [(.row (.cells [(.val (.bool I)),(.val (.string M)),(.val (.string J))]) 27 .live),(.row (.cells [(.val (.bool j)),(.val (.string G)),(.val (.string rd))]) 27 .live)])):=by kernel_rfl
theorem Og {n:Int} {d:Int} {a:Int} {c:Int} {I:Bool} {M:ByteArray} {J:ByteArray} {j:Bool} {G:ByteArray} {rd:ByteArray} {e:Ex} {T:List AV} {H:Hp} (h:aN Tryz.prog bj 94 [0,1,4,5,6,7] (lb 94 fQ) (false :: fQ) (j9 n d a c I M J j G rd) (jt n d a c I M J j G rd)=some (e,T,H)):V.Ends Tryz.prog false 0 0 (lb 94 fQ) (j9 n d a c I M J j G rd) (jt n d a c I M J j G rd) e T H:=
 bw (aH _) aK mixed S0 h
def ra (n d a c:Int) (I:Bool) (M J:ByteArray) (j:Bool) (G rd:ByteArray):Prop:=0≤a∧0≤c
def q9 (n d a c:Int) (I:Bool) (M J:ByteArray) (j:Bool) (G rd:ByteArray) (r:Int×Int):Prop:=r.1=(Nat.gcd a.natAbs c.natAbs:Nat)
theorem Zq (n d:Int) (I:Bool) (M J:ByteArray) (j:Bool) (G rd:ByteArray) (k:Nat):∀ a c:Nat,c=k→∃ r:Int×Int,aw Tryz.prog (lb 94 fQ) (j9 n d a c I M J j G rd) (jt n d a c I M J j G rd) (.exit 0) (j9 n d r.1 r.2 I M J j G rd) (jt n d r.1 r.2 I M J j G rd)∧r.1=(Nat.gcd a c:Nat):=by
 induction k using Nat.strongRecOn with
 | _ k Z=>
  intro a c ab
  have N:=aaN n d a c I M J j G rd
  by_cases O:c=0
  ·refine ⟨((a:Int),(c:Int)), .last (Og ?_) (by intro h;cases h),by rw [O,Nat.gcd_zero_right]⟩
   rw [N,dF (show ¬ (0:Int) < (c:Int) by omega)]
   rfl
  ·have a0:a % c < c:=Nat.mod_lt _ (by omega)
   obtain ⟨r,S,U⟩:=Z (a % c) (by omega) c (a % c) rfl
   refine ⟨r, .more (Og ?_) S,by rw [U,Nat.gcd_comm c,← Nat.gcd_rec,Nat.gcd_comm]⟩
   rw [N,dT (show (0:Int) < (c:Int) by omega),dF (show ¬ (c:Int)=0 by omega)]
   rfl
theorem XY (n d a c:Int) (I:Bool) (M J:ByteArray) (j:Bool) (G rd:ByteArray) (h:ra n d a c I M J j G rd):∃ r:Int×Int,aw Tryz.prog (lb 94 fQ) (j9 n d a c I M J j G rd) (jt n d a c I M J j G rd) (.exit 0) (j9 n d r.1 r.2 I M J j G rd) (jt n d r.1 r.2 I M J j G rd)∧q9 n d a c I M J j G rd r:=by
 obtain ⟨N,O⟩:=h
 obtain ⟨a,rfl⟩:=Int.eq_ofNat_of_zero_le N
 obtain ⟨c,rfl⟩:=Int.eq_ofNat_of_zero_le O
 obtain ⟨r,k1,S⟩:=Zq n d I M J j G rd c a c rfl
 exact ⟨r,k1,by unfold q9;rw [S];rfl⟩
def Gd (O:Int→Int→Int→Int→Bool→ByteArray→ByteArray→Bool→ByteArray→ByteArray→Bool) (N:Int→Int→Int→Int→Bool→ByteArray→ByteArray→Bool→ByteArray→ByteArray→Int×Int) (T:List AV) (H:Hp):Option (Bool×Ex×List AV×Hp):=
 match al T 0,al T 1,al T 4,al T 5,al T 6,al T 7,H with
 | .val (.int .i64 n), .val (.int .i64 d), .ptr 0 0, .ptr 1 0, .val (.int .i64 a), .val (.int .i64 c), [.row (.cells [.val (.bool I), .val (.string M), .val (.string J)]) 27 .live, .row (.cells [.val (.bool j), .val (.string G), .val (.string rd)]) 27 .live]=>bif T.length==41 then some (O n d a c I M J j G rd, .exit 0,j9 n d ((N n d a c I M J j G rd).1) ((N n d a c I M J j G rd).2) I M J j G rd,jt n d ((N n d a c I M J j G rd).1) ((N n d a c I M J j G rd).2) I M J j G rd) else none
 | _,_,_,_,_,_,_=>none
abbrev Iz:Type:=Int→Int→Int→Int→Bool→ByteArray→ByteArray→Bool→ByteArray→ByteArray→Bool
abbrev HY:Type:=Int→Int→Int→Int→Bool→ByteArray→ByteArray→Bool→ByteArray→ByteArray→Int×Int
def A3 (j:Iz) (G:HY) (L:aE):aE:=bp 0 94 fQ [0,1,4,5,6,7] (Gd j G) L
def mH (n:Int) (d:Int) (a:Int) (c:Int) (I:Bool) (M:ByteArray) (J:ByteArray) (j:Bool) (G:ByteArray) (rd:ByteArray):Int×Int:=Classical.epsilon fun ρ=>aw Tryz.prog (lb 94 fQ) (j9 n d a c I M J j G rd) (jt n d a c I M J j G rd) (.exit 0) (j9 n d (ρ.1) (ρ.2) I M J j G rd) (jt n d (ρ.1) (ρ.2) I M J j G rd)∧q9 n d a c I M J j G rd ρ
theorem Da (n:Int) (d:Int) (a:Int) (c:Int) (I:Bool) (M:ByteArray) (J:ByteArray) (j:Bool) (G:ByteArray) (rd:ByteArray) (h:ra n d a c I M J j G rd):aw Tryz.prog (lb 94 fQ) (j9 n d a c I M J j G rd) (jt n d a c I M J j G rd) (.exit 0) (j9 n d ((mH n d a c I M J j G rd).1) ((mH n d a c I M J j G rd).2) I M J j G rd) (jt n d ((mH n d a c I M J j G rd).1) ((mH n d a c I M J j G rd).2) I M J j G rd)∧q9 n d a c I M J j G rd (mH n d a c I M J j G rd):=Classical.epsilon_spec (XY n d a c I M J j G rd h)
def sE (n:Int) (d:Int) (a:Int) (c:Int) (I:Bool) (M:ByteArray) (J:ByteArray) (j:Bool) (G:ByteArray) (rd:ByteArray):Bool:= @decide (ra n d a c I M J j G rd) (Classical.propDecidable _)
theorem JX (n:Int) (d:Int) (a:Int) (c:Int) (I:Bool) (M:ByteArray) (J:ByteArray) (j:Bool) (G:ByteArray) (rd:ByteArray) (h:ra n d a c I M J j G rd):sE n d a c I M J j G rd=true:= @decide_eq_true _ (Classical.propDecidable _) h
theorem adt (T:List AV) (H:Hp) (e:Ex) (I:List AV) (G:Hp) (h:Gd sE mH T H=some (true,e,I,G)):V.Ends Tryz.prog false 0 0 (.loop (lb 94 fQ)) T H e I G:=by
 unfold Gd at h
 split at h
 ·rename_i n d a c a4 a6 a5 a2 a3 rd N O S U Z ab
  rw [Bool.cond_eq_ite] at h
  split at h
  ·rename_i J
   rw [beq_iff_eq] at J
   simp only [Option.some.injEq,Prod.mk.injEq,Bool.and_eq_true,decide_eq_true_eq] at h
   obtain ⟨k1,rfl,rfl,rfl⟩:=h
   have a1:= @of_decide_eq_true _ (Classical.propDecidable _) k1
   refine Ends.pre (Da n d a c a4 a6 a5 a2 a3 rd a1).1.ends (fun α B w D a7 a0=>bm J (fun p M y j=> ?_) a0)
   simp only [List.mem_cons,List.not_mem_nil,or_false] at M
   rcases M with rfl | rfl | rfl | rfl | rfl | rfl
   ·rw [N] at j;exact j
   ·rw [O] at j;exact j
   ·rw [S] at j;exact j
   ·rw [U] at j;exact j
   ·rw [Z] at j;exact j
   ·rw [ab] at j;exact j
  ·cases h
 ·cases h
theorem Qk {L:aE} (h:aB Tryz.prog L):aB Tryz.prog (A3 sE mH L):=h.br Rs adt
theorem Zh (M:Sg) (N:Iz) (O:HY) (n d:Int):letI I:=(IntKind.i64.wrap ((0:Int) - n));letI J:=(decide (n < (0:Int)));letI j:=(O I d I d false (ByteArray.mk #[]) (ByteArray.mk #[]) J (ByteArray.mk #[]) (ByteArray.mk #[]));letI G:=(O n d n d false (ByteArray.mk #[]) (ByteArray.mk #[]) J (ByteArray.mk #[]) (ByteArray.mk #[]));
  (aD Tryz.prog ⟨an 126 (za M) aF,ar,A3 N O aq⟩ 10 10 94 [.val (.int .i64 n), .val (.int .i64 d)]=(bif decide (n < (0:Int)) then (bif decide (IntKind.i64.wrap ((0:Int) - n)=(0:Int)) then some (.agg [(.val (.bool false)),(.val (.string (ByteArray.mk #[]))),(.val (.string (ByteArray.mk #[])))]) else (bif N I d I d false (ByteArray.mk #[]) (ByteArray.mk #[]) J (ByteArray.mk #[]) (ByteArray.mk #[]) then (bif decide (j.fst=(0:Int)) then none else (bif aj IntKind.i64 (I.tdiv j.fst) then (bif decide ((0:Int)≤I.tdiv j.fst)&&decide (I.tdiv j.fst < (72057594037927936:Int)) then (bif decide (j.fst=(0:Int)) then none else (bif aj IntKind.i64 (d.tdiv j.fst) then (bif decide ((1:Int) < d.tdiv j.fst) then (bif decide (j.fst=(0:Int)) then none else (bif aj IntKind.i64 (d.tdiv j.fst) then (bif decide ((0:Int)≤d.tdiv j.fst)&&decide (d.tdiv j.fst < (72057594037927936:Int)) then some (.agg [(.val (.bool J)),(.val (.string (M.mg (I.tdiv j.fst).toNat))),(.val (.string (M.mg (d.tdiv j.fst).toNat)))]) else none) else none)) else some (.agg [(.val (.bool J)),(.val (.string (M.mg (I.tdiv j.fst).toNat))),(.val (.string (ByteArray.mk #[])))])) else none)) else none) else none)) else none)) else (bif decide (n=(0:Int)) then some (.agg [(.val (.bool false)),(.val (.string (ByteArray.mk #[]))),(.val (.string (ByteArray.mk #[])))]) else (bif N n d n d false (ByteArray.mk #[]) (ByteArray.mk #[]) J (ByteArray.mk #[]) (ByteArray.mk #[]) then (bif decide (G.fst=(0:Int)) then none else (bif aj IntKind.i64 (n.tdiv G.fst) then (bif decide ((0:Int)≤n.tdiv G.fst)&&decide (n.tdiv G.fst < (72057594037927936:Int)) then (bif decide (G.fst=(0:Int)) then none else (bif aj IntKind.i64 (d.tdiv G.fst) then (bif decide ((1:Int) < d.tdiv G.fst) then (bif decide (G.fst=(0:Int)) then none else (bif aj IntKind.i64 (d.tdiv G.fst) then (bif decide ((0:Int)≤d.tdiv G.fst)&&decide (d.tdiv G.fst < (72057594037927936:Int)) then some (.agg [(.val (.bool J)),(.val (.string (M.mg (n.tdiv G.fst).toNat))),(.val (.string (M.mg (d.tdiv G.fst).toNat)))]) else none) else none)) else some (.agg [(.val (.bool J)),(.val (.string (M.mg (n.tdiv G.fst).toNat))),(.val (.string (ByteArray.mk #[])))])) else none)) else none) else none)) else none)))):=by kernel_rfl
def v5 (j:Sg):FuncId→TF:=an 102 (kA j) (an 124 (kB j) aF)
theorem aa1 (j:Sg) (b:Bool) (n d:ByteArray):aD Tryz.prog ⟨v5 j,ar,aq⟩ 10 10 90 [.agg [.val (.bool b), .val (.string n), .val (.string d)]]=
  (bif j.ok n&&j.ok (ByteArray.mk #[]) then (bif j.ok d&&j.ok (ByteArray.mk #[]) then (bif aG (j.ms (j.val false d+j.val false (ByteArray.mk #[]))) (ByteArray.mk #[]) then some (.tup [(.agg [(.val (.bool (j.ng (j.val b n+j.val false (ByteArray.mk #[]))))),(.val (.string (j.ms (j.val b n+j.val false (ByteArray.mk #[])))))]),(.agg [(.val (.bool (j.ng (1:Int)))),(.val (.string (j.ms (1:Int))))])]) else some (.tup [(.agg [(.val (.bool (j.ng (j.val b n+j.val false (ByteArray.mk #[]))))),(.val (.string (j.ms (j.val b n+j.val false (ByteArray.mk #[])))))]),(.agg [(.val (.bool (j.ng (j.val false d+j.val false (ByteArray.mk #[]))))),(.val (.string (j.ms (j.val false d+j.val false (ByteArray.mk #[])))))])])) else none) else none):=by kernel_rfl
def zR (j:Sg) (X:Xg):FuncId→TF:=an 127 (kX j) (an 128 (yY j X) (an 129 (yV j X) (v5 j)))
theorem aal (j:Sg) (X:Xg) (b c:Bool) (s t:ByteArray):letI I:=(j.val b s+j.val false (ByteArray.mk #[]));letI O:=(-j.val (j.ng I) (j.ms I));letI G:=(j.val c t+j.val false (ByteArray.mk #[]));letI N:=(-j.val (j.ng G) (j.ms G));letI J:=(X.gcd (j.val (j.ng O) (j.ms O)) (j.val (j.ng N) (j.ms N)));letI M:=(X.gcd (j.val (j.ng I) (j.ms I)) (j.val (j.ng G) (j.ms G)));letI S:=(X.dq (j.val (j.ng O) (j.ms O)) (j.val (j.ng J) (j.ms J)));letI U:=(X.dq (j.val (j.ng I) (j.ms I)) (j.val (j.ng M) (j.ms M)));
  (aD Tryz.prog ⟨zR j X,ar,aq⟩ 10 10 95 [.agg [.val (.bool b), .val (.string s)], .agg [.val (.bool c), .val (.string t)]]=(bif j.ok s&&j.ok (ByteArray.mk #[]) then (bif j.ok t&&j.ok (ByteArray.mk #[]) then (bif aG (j.ms I) (ByteArray.mk #[]) then some (.agg [(.val (.bool false)),(.val (.string (ByteArray.mk #[]))),(.val (.string (ByteArray.mk #[])))]) else (bif j.ng G then (bif j.ok (j.ms I) then (bif j.ok (j.ms G) then (bif X.cj (j.ms O)&&X.cj (j.ms N) then (bif X.cj (j.ms O)&&X.cj (j.ms J) then (bif X.cj (j.ms N)&&X.cj (j.ms J) then (bif !aG (j.ms (X.dq (j.val (j.ng N) (j.ms N)) (j.val (j.ng J) (j.ms J)))) (ByteArray.mk #[(1:UInt8)]) then some (.agg [(.val (.bool (j.ng S))),(.val (.string (j.ms S))),(.val (.string (j.ms (X.dq (j.val (j.ng N) (j.ms N)) (j.val (j.ng J) (j.ms J))))))]) else some (.agg [(.val (.bool (j.ng S))),(.val (.string (j.ms S))),(.val (.string (ByteArray.mk #[])))])) else none) else none) else none) else none) else none) else (bif X.cj (j.ms I)&&X.cj (j.ms G) then (bif X.cj (j.ms I)&&X.cj (j.ms M) then (bif X.cj (j.ms G)&&X.cj (j.ms M) then (bif !aG (j.ms (X.dq (j.val (j.ng G) (j.ms G)) (j.val (j.ng M) (j.ms M)))) (ByteArray.mk #[(1:UInt8)]) then some (.agg [(.val (.bool (j.ng U))),(.val (.string (j.ms U))),(.val (.string (j.ms (X.dq (j.val (j.ng G) (j.ms G)) (j.val (j.ng M) (j.ms M))))))]) else some (.agg [(.val (.bool (j.ng U))),(.val (.string (j.ms U))),(.val (.string (ByteArray.mk #[])))])) else none) else none) else none))) else none) else none)):=by kernel_rfl
def vZ (G:Sg) (X:Xg) (j:Qg):FuncId→TF:=an 93 (pH j) (an 94 (pL j) (an 90 (pK G j) (an 95 (vJ G X j) aF)))
theorem YQ (j:Sg) (X:Xg) (G:Qg) (b:Bool) (n d:ByteArray):aD Tryz.prog ⟨vZ j X G,ar,aq⟩ 10 10 100 [.agg [.val (.bool b), .val (.string n), .val (.string d)]]=
  (bif G.ms n d then (bif ff (G.mn b n d)&&ff (G.md n d)&&decide ((0:Int) < G.md n d) then some (.agg [(.val (.bool (G.qn (G.fr (G.mn b n d) (G.md n d))))),(.val (.string (G.qs (G.fr (G.mn b n d) (G.md n d))))),(.val (.string (G.qd (G.fr (G.mn b n d) (G.md n d)))))]) else none) else (bif G.aL n d then (bif X.cj (j.ms (j.val b n))&&X.cj (j.ms (j.val false (G.fd d)))&& !decide (j.val (j.ng (j.val false (G.fd d))) (j.ms (j.val false (G.fd d)))=(0:Int)) then some (.agg [(.val (.bool (G.qn (G.fr (j.val (j.ng (j.val b n)) (j.ms (j.val b n))) (j.val (j.ng (j.val false (G.fd d))) (j.ms (j.val false (G.fd d)))))))),(.val (.string (G.qs (G.fr (j.val (j.ng (j.val b n)) (j.ms (j.val b n))) (j.val (j.ng (j.val false (G.fd d))) (j.ms (j.val false (G.fd d)))))))),(.val (.string (G.qd (G.fr (j.val (j.ng (j.val b n)) (j.ms (j.val b n))) (j.val (j.ng (j.val false (G.fd d))) (j.ms (j.val false (G.fd d))))))))]) else none) else none)):=by kernel_rfl
def zT (j:Sg) (X:Xg) (G:Qg):FuncId→TF:=an 95 (vJ j X G) (an 124 (kB j) (an 97 (nV j) (an 100 (zi G) (an 90 (pK j G) aF))))
theorem aa5 (G:Sg) (X:Xg) (j:Qg) (b:Bool) (n d:ByteArray):aD Tryz.prog ⟨zT G X j,ar,aq⟩ 10 10 51 [.agg [.val (.bool b), .val (.string n), .val (.string d)]]=
  (bif j.aL n d then (bif bif true then !(j.qn (j.qv b n d)==b&&(aG (j.qs (j.qv b n d)) n&&(aG (j.qd (j.qv b n d)) d&&true))) else j.qn (j.qv b n d)==b&&(aG (j.qs (j.qv b n d)) n&&(aG (j.qd (j.qv b n d)) d&&true)) then some (.val (.int .i64 1)) else some (.val (.int .i64 0))) else none):=by kernel_rfl
end
end Go.Proofs.YtamcpiicmfielaaGreat.L
namespace Go.Proofs.YtamcpiicmfielaaGreat.L
open Go Go.V Go.RowKit Go.Proofs.YtamcpiicmfielaaGreat.Sp Go.Proofs.YtamcpiicmfielaaGreat.F
open Go.Proofs (Tryz.prog)
noncomputable section
theorem Kg:Entry Tryz.prog 94 (pL ad):=by
 refine aX (E:= ⟨an 126 (za aa) aF,ar,A3 sE mH aq⟩) (u:=10) (d:=10) ((aH _).add VI) (Qk aB.none).ok mixed (by kernel_rfl) (fun args r h=> ?_)
 unfold pL at h
 split at h
 ·rename_i n d
  simp only [Option.some.injEq,Prod.mk.injEq,Bool.and_eq_true,decide_eq_true_eq] at h
  obtain ⟨⟨⟨a3,a4⟩,a0⟩,rfl⟩:=h
  have a7:=x7 a3
  have bx:=x7 a4
  have j:=Zh aa sE mH n d
  have a6:IntKind.i64.wrap (0 - n)= -n:=by rw [IntKind.wrap_i64];omega
  have bD:0 < Nat.gcd n.natAbs d.natAbs:=Nat.gcd_pos_of_pos_right _ (by omega)
  have l1:=Nat.div_le_self n.natAbs (Nat.gcd n.natAbs d.natAbs)
  have l2:=Nat.div_le_self d.natAbs (Nat.gcd n.natAbs d.natAbs)
  obtain ⟨a2,_,O,S⟩:=xI n a0
  have a5:ad.fr n d=Rat.divInt n d:=rfl
  have J:ad.qn (Rat.divInt n d)=decide (n < 0):=by
   have:ad.qn (Rat.divInt n d)=aa.ng (Rat.divInt n d).num:=rfl
   rw [this,cQ]
   refine decide_eq_decide.2 ?_
   rw [a2,Int.ediv_lt_iff_lt_mul (GW n a0),Int.zero_mul]
  have a1:Int.tdiv d ((Nat.gcd n.natAbs d.natAbs:Nat):Int)=((d.natAbs / Nat.gcd n.natAbs d.natAbs:Nat):Int):=by
   obtain ⟨m,rfl⟩:=Int.eq_ofNat_of_zero_le (show 0≤d by omega)
   rfl
  have G:=yC (Rat.divInt n d)
  have b0:=(Rat.divInt n d).den_pos
  rw [a6] at j
  rw [a5]
  by_cases U:n < 0
  ·have N:ra (-n) d (-n) d false (ByteArray.mk #[]) (ByteArray.mk #[]) (decide (n < 0)) (ByteArray.mk #[]) (ByteArray.mk #[]):= ⟨by omega,by omega⟩
   obtain ⟨_,I⟩:=Da _ _ _ _ _ _ _ _ _ _ N
   unfold q9 at I
   rw [Int.natAbs_neg] at I
   have ab:Int.tdiv (-n) ((Nat.gcd n.natAbs d.natAbs:Nat):Int)=((n.natAbs / Nat.gcd n.natAbs d.natAbs:Nat):Int):=by
    have: -n=((n.natAbs:Nat):Int):=by omega
    rw [this];rfl
   rw [JX _ _ _ _ _ _ _ _ _ _ N,I,ab,a1,← O,← S,dF (show ¬ -n=0 by omega),dF (show ¬ ((Nat.gcd n.natAbs d.natAbs:Nat):Int)=0 by omega)] at j
   rw [← O] at l1
   rw [← S] at l2
   rw [aO (z:=(((Rat.divInt n d).num.natAbs:Nat):Int)) (by omega),dT (show (0:Int)≤(((Rat.divInt n d).num.natAbs:Nat):Int) by omega),dT (show (((Rat.divInt n d).num.natAbs:Nat):Int) < 72057594037927936 by omega),aO (z:=(((Rat.divInt n d).den:Nat):Int)) (by omega),dT (show (0:Int)≤(((Rat.divInt n d).den:Nat):Int) by omega),dT (show (((Rat.divInt n d).den:Nat):Int) < 72057594037927936 by omega),Int.toNat_natCast,Int.toNat_natCast] at j
   rw [dT U,cond_true] at j
   rw [dT U] at J
   rw [j]
   by_cases M:(Rat.divInt n d).den=1
   ·rw [if_pos M] at G
    rw [dF (show ¬ (1:Int) < (((Rat.divInt n d).den:Nat):Int) by omega)]
    unfold Qg.rat
    rw [G,J];rfl
   ·rw [if_neg M] at G
    rw [dT (show (1:Int) < (((Rat.divInt n d).den:Nat):Int) by omega)]
    unfold Qg.rat
    rw [G,J];rfl
  ·rw [dF U,cond_false] at j
   rw [dF U] at J
   by_cases Z:n=0
   ·rw [dT Z] at j
    rw [j,Z,Rat.zero_divInt,nO];rfl
   ·have N:ra n d n d false (ByteArray.mk #[]) (ByteArray.mk #[]) false (ByteArray.mk #[]) (ByteArray.mk #[]):= ⟨by omega,by omega⟩
    obtain ⟨_,I⟩:=Da _ _ _ _ _ _ _ _ _ _ N
    unfold q9 at I
    have ab:Int.tdiv n ((Nat.gcd n.natAbs d.natAbs:Nat):Int)=((n.natAbs / Nat.gcd n.natAbs d.natAbs:Nat):Int):=by
     have:n=((n.natAbs:Nat):Int):=by omega
     rw [this];rfl
    rw [JX _ _ _ _ _ _ _ _ _ _ N,I,ab,a1,← O,← S,dF Z,dF (show ¬ ((Nat.gcd n.natAbs d.natAbs:Nat):Int)=0 by omega)] at j
    rw [← O] at l1
    rw [← S] at l2
    rw [aO (z:=(((Rat.divInt n d).num.natAbs:Nat):Int)) (by omega),dT (show (0:Int)≤(((Rat.divInt n d).num.natAbs:Nat):Int) by omega),dT (show (((Rat.divInt n d).num.natAbs:Nat):Int) < 72057594037927936 by omega),aO (z:=(((Rat.divInt n d).den:Nat):Int)) (by omega),dT (show (0:Int)≤(((Rat.divInt n d).den:Nat):Int) by omega),dT (show (((Rat.divInt n d).den:Nat):Int) < 72057594037927936 by omega),Int.toNat_natCast,Int.toNat_natCast] at j
    rw [j]
    by_cases M:(Rat.divInt n d).den=1
    ·rw [if_pos M] at G
     rw [dF (show ¬ (1:Int) < (((Rat.divInt n d).den:Nat):Int) by omega)]
     unfold Qg.rat
     rw [G,J];rfl
    ·rw [if_neg M] at G
     rw [dT (show (1:Int) < (((Rat.divInt n d).den:Nat):Int) by omega)]
     unfold Qg.rat
     rw [G,J];rfl
 ·cases h
theorem Hb:bb Tryz.prog (v5 aa):=((aH _).add tf).add BX
theorem Y1 (n d:ByteArray) (h:ad.aL n d=true):aa.ok n=true∧aa.ok d=true:=by
 obtain ⟨j,G⟩:=yD h
 exact ⟨oU (by omega),oU (by omega)⟩
theorem xx:Entry Tryz.prog 90 (pK aa ad):=by
 refine aX (E:= ⟨v5 aa,ar,aq⟩) (u:=10) (d:=10) Hb aK mixed (by kernel_rfl) (fun args r h=> ?_)
 unfold pK jb at h
 split at h
 ·rename_i b n d
  simp only [Option.some.injEq,Prod.mk.injEq] at h
  obtain ⟨I,rfl⟩:=h
  obtain ⟨k1,J⟩:=Y1 n d I
  have G:aa.val false d=(vS d:Nat):=rfl
  rw [aa1]
  simp only [zF,Int.add_zero,qJ]
  rw [k1,J,ye,jd]
  unfold dn
  by_cases j:vS d=0
  ·rw [dT (show aa.val false d=0 by rw [G,j];rfl),if_pos j];rfl
  ·rw [dF (show ¬ aa.val false d=0 by rw [G];omega),if_neg j,← G];rfl
 ·cases h
theorem Pu (s:ByteArray):aZ.cj s=decide (s.size≤68719476736):=of_eq_true (eq_true rfl)
theorem jI {z:Int} (h:bs z.natAbs≤68719476736):aZ.cj (aa.ms z)=true:=by rw [Pu,pC];exact decide_eq_true h
theorem LK {s:ByteArray} (h:aZ.cj s=true):s.size≤68719476736:=by rw [Pu,decide_eq_true_eq] at h;exact h
theorem VL:Entry Tryz.prog 128 (yY aa aZ):=VM aZ rfl rfl
theorem VJ:Entry Tryz.prog 129 (yV aa aZ):=VK aZ rfl rfl rfl rfl
theorem PL:bb Tryz.prog (zR aa aZ):=((Hb.add VJ).add VL).add B2
theorem Lx {n:Nat} :aG (aa.ms (n:Int)) (ByteArray.mk #[(1:UInt8)])=decide (n=1):=by
 have e:ByteArray.mk #[(1:UInt8)]=az 1:=(tH (ByteArray.mk #[(1:UInt8)]) (by show ¬ (1:UInt8)=0;decide)).symm
 rw [e,vy]
 refine decide_eq_decide.2 ?_
 have j:aa.ms (n:Int)=az n:=rfl
 rw [j]
 constructor
 ·intro h
  have:=congrArg vS h
  rwa [jc,jc] at this
 ·intro h;rw [h]
theorem B4:Entry Tryz.prog 95 (vJ aa aZ ad):=by
 refine aX (E:= ⟨zR aa aZ,ar,aq⟩) (u:=10) (d:=10) PL aK mixed (by kernel_rfl) (fun args r h=> ?_)
 unfold vJ at h
 split at h
 ·rename_i b s c t
  simp only [Option.some.injEq,Prod.mk.injEq,Bool.and_eq_true,Bool.not_eq_true',decide_eq_false_iff_not] at h
  obtain ⟨⟨⟨S,U⟩,a1⟩,rfl⟩:=h
  have z1:=LK S
  have z2:=LK U
  have k1:=dv b s
  have a2:=dv c t
  have N:=aal aa aZ b c s t
  simp only [dp,zF,Int.add_zero,qJ,Pt,GU] at N
  rw [N]
  clear N
  generalize aa.val b s=x at*
  generalize aa.val c t=y at*
  have a3:=wI x
  have a4:=wI y
  have ab:=Bq x y
  have a0:=Bq (-x) (-y)
  have Z:ad.fr x y=Rat.divInt x y:=rfl
  rw [oU (s:=s) (by omega),oU (s:=t) (by omega),ye,bA (z:=x) (by omega),bA (z:=y) (by omega),jI (z:=x) (by omega),jI (z:=y) (by omega),jI (z:= -x) (by omega),jI (z:= -y) (by omega),jI (z:=zg x y) (by omega),jI (z:=zg (-x) (-y)) (by omega),Z]
  by_cases M:x=0
  ·rw [dT M,M,Rat.zero_divInt,nO];rfl
  ·rw [dF M,cQ y]
   have G:=yC (Rat.divInt x y)
   by_cases O:y < 0
   ·obtain ⟨I,J⟩:=GX (-x) (show 0 < -y by omega)
    rw [Rat.neg_divInt_neg] at I J
    rw [dT O,I,J,Lx]
    by_cases j:(Rat.divInt x y).den=1
    ·rw [if_pos j] at G
     rw [dT j]
     unfold Qg.rat
     rw [G];rfl
    ·rw [if_neg j] at G
     rw [dF j]
     unfold Qg.rat
     rw [G];rfl
   ·obtain ⟨I,J⟩:=GX x (show 0 < y by omega)
    rw [dF O,I,J,Lx]
    by_cases j:(Rat.divInt x y).den=1
    ·rw [if_pos j] at G
     rw [dT j]
     unfold Qg.rat
     rw [G];rfl
    ·rw [if_neg j] at G
     rw [dF j]
     unfold Qg.rat
     rw [G];rfl
 ·cases h
theorem PN:bb Tryz.prog (vZ aa aZ ad):=((((aH _).add B4).add xx).add Kg).add Kj
theorem Kf:Entry Tryz.prog 100 (zi ad):=by
 refine aX (E:= ⟨vZ aa aZ ad,ar,aq⟩) (u:=10) (d:=10) PN aK mixed (by kernel_rfl) (fun args r h=> ?_)
 unfold zi jb at h
 split at h
 ·rename_i b n d
  simp only [Option.some.injEq,Prod.mk.injEq] at h
  obtain ⟨G,rfl⟩:=h
  obtain ⟨z1,z2⟩:=yD G
  have k1:=dv b n
  have a0:=p8 d
  have p1:=cU d
  have j:=YQ aa aZ ad b n d
  have S:∀ x y,ad.fr x y=Rat.divInt x y:=fun x y=>rfl
  simp only [dp,jd,S] at j
  have I:Rat.divInt (aa.val b n) (dn d)=ad.qv b n d:=rfl
  rw [G,I,jI (z:=aa.val b n) (by omega),jI (z:=dn d) (by omega),dF (show ¬ dn d=0 by omega)] at j
  have O:∀ u:Bool,(u=true→ad.ms n d=true)→ad.ms n d=u→aD Tryz.prog ⟨vZ aa aZ ad,ar,aq⟩ 10 10 100 [.agg [.val (.bool b), .val (.string n), .val (.string d)]]=some (ad.rat (ad.qv b n d)):=by
   intro u U N
   rw [j,N]
   cases u
   ·rfl
   ·obtain ⟨_,_,J,M,Z,ab⟩:=iG (U rfl) b
    rw [J,M,lA (z:=aa.val b n) (by omega),lA (z:=dn d) (by omega),dT p1,I]
    rfl
  exact O _ id rfl
 ·cases h
theorem PM:bb Tryz.prog (zT aa aZ ad):=(((((aH _).add xx).add Kf).add Kd).add tf).add B4
theorem xy:Entry Tryz.prog 51 (jb ad fun b n d=> .val (.int .i64 (ad.ck b n d))):=by
 refine aX (E:= ⟨zT aa aZ ad,ar,aq⟩) (u:=10) (d:=10) PM aK mixed (by kernel_rfl) (fun args r h=> ?_)
 unfold jb at h
 split at h
 ·rename_i b n d
  simp only [Option.some.injEq,Prod.mk.injEq] at h
  obtain ⟨G,rfl⟩:=h
  rw [aa5,G]
  have I:ad.ck b n d=bif (b==ad.qn (ad.qv b n d))&&aG n (ad.qs (ad.qv b n d))&&aG d (ad.qd (ad.qv b n d)) then 0 else 1:=rfl
  have j:∀ s t:ByteArray,aG s t=aG t s:=fun s t=>by unfold aG;exact Bool.beq_comm
  rw [I,j n,j d,show (b==ad.qn (ad.qv b n d))=(ad.qn (ad.qv b n d)==b) from Bool.beq_comm]
  generalize (ad.qn (ad.qv b n d)==b)=J
  generalize aG (ad.qs (ad.qv b n d)) n=M
  generalize aG (ad.qd (ad.qv b n d)) d=N
  cases J <;> cases M <;> cases N <;> rfl
 ·cases h
end
end Go.Proofs.YtamcpiicmfielaaGreat.L
namespace Go.Proofs.YtamcpiicmfielaaGreat.L
open Go Go.V Go.RowKit Go.Proofs.YtamcpiicmfielaaGreat.Sp Go.Proofs.YtamcpiicmfielaaGreat.F
open Go.Proofs (Tryz.prog)
noncomputable section
def lg (j:Sg) (X:Xg) (G:Qg):FuncId→TF:=an 93 (pH G) (an 94 (pL G) (an 90 (pK j G) (an 95 (vJ j X G) (an 102 (kA j) (an 96 (rC j) (an 97 (nV j) (an 100 (zi G) aF)))))))
theorem zP:bb Tryz.prog (lg aa aZ ad):=((((((((aH _).add Kf).add Kd).add VO).add BX).add B4).add xx).add Kg).add Kj
theorem ZV (j:Sg) (X:Xg) (G:Qg) (b c:Bool) (n d m e:ByteArray):letI O:=(j.val (j.ng (j.val b n)) (j.ms (j.val b n))*j.val (j.ng (j.val false (G.fd e))) (j.ms (j.val false (G.fd e))));letI S:=(j.val (j.ng (j.val c m)) (j.ms (j.val c m))*j.val (j.ng (j.val false (G.fd d))) (j.ms (j.val false (G.fd d))));letI N:=(j.val (j.ng O) (j.ms O)+j.val (j.ng S) (j.ms S));letI I:=(j.val (j.ng (j.val false (G.fd d))) (j.ms (j.val false (G.fd d)))*j.val (j.ng (j.val false (G.fd e))) (j.ms (j.val false (G.fd e))));letI M:=(G.fr (j.val (j.ng N) (j.ms N)) (j.val (j.ng I) (j.ms I)));letI U:Option AV:=(bif G.aL n d then (bif G.aL m e then (bif j.ok (j.ms (j.val b n))&&j.ok (j.ms (j.val false (G.fd e))) then (bif j.ok (j.ms (j.val c m))&&j.ok (j.ms (j.val false (G.fd d))) then (bif j.ok (j.ms O)&&j.ok (j.ms S) then (bif j.ok (j.ms (j.val false (G.fd d)))&&j.ok (j.ms (j.val false (G.fd e))) then (bif X.cj (j.ms N)&&X.cj (j.ms I)&& !decide (j.val (j.ng I) (j.ms I)=(0:Int)) then some (.agg [(.val (.bool (G.qn M))),(.val (.string (G.qs M))),(.val (.string (G.qd M)))]) else none) else none) else none) else none) else none) else none) else none);letI J:=(G.mn b n d*G.md m e+G.mn c m e*G.md n d);
  (aD Tryz.prog ⟨lg j X G,ar,aq⟩ 10 10 56 [.agg [.val (.bool b), .val (.string n), .val (.string d)], .agg [.val (.bool c), .val (.string m), .val (.string e)]]=(bif G.ms n d then (bif G.ms m e then (bif aj IntKind.i64 (G.mn b n d*G.md m e) then (bif aj IntKind.i64 (G.mn c m e*G.md n d) then (bif aj IntKind.i64 J then (bif aj IntKind.i64 (G.md n d*G.md m e) then (bif ff J&&ff (G.md n d*G.md m e)&&decide ((0:Int) < G.md n d*G.md m e) then some (.agg [(.val (.bool (G.qn (G.fr J (G.md n d*G.md m e))))),(.val (.string (G.qs (G.fr J (G.md n d*G.md m e))))),(.val (.string (G.qd (G.fr J (G.md n d*G.md m e)))))]) else none) else none) else none) else none) else none) else U) else U)):=by kernel_rfl
theorem aaC (j:Sg) (X:Xg) (G:Qg) (b c:Bool) (n d m e:ByteArray):letI M:=(j.val (j.ng (j.val b n)) (j.ms (j.val b n))*j.val (j.ng (j.val c m)) (j.ms (j.val c m)));letI I:=(j.val (j.ng (j.val false (G.fd d))) (j.ms (j.val false (G.fd d)))*j.val (j.ng (j.val false (G.fd e))) (j.ms (j.val false (G.fd e))));letI J:=(G.fr (j.val (j.ng M) (j.ms M)) (j.val (j.ng I) (j.ms I)));letI O:Option AV:=(bif G.aL n d then (bif G.aL m e then (bif j.ok (j.ms (j.val b n))&&j.ok (j.ms (j.val c m)) then (bif j.ok (j.ms (j.val false (G.fd d)))&&j.ok (j.ms (j.val false (G.fd e))) then (bif X.cj (j.ms M)&&X.cj (j.ms I)&& !decide (j.val (j.ng I) (j.ms I)=(0:Int)) then some (.agg [(.val (.bool (G.qn J))),(.val (.string (G.qs J))),(.val (.string (G.qd J)))]) else none) else none) else none) else none) else none);letI N:=(G.fr (G.mn b n d*G.mn c m e) (G.md n d*G.md m e));
  (aD Tryz.prog ⟨lg j X G,ar,aq⟩ 10 10 47 [.agg [.val (.bool b), .val (.string n), .val (.string d)], .agg [.val (.bool c), .val (.string m), .val (.string e)]]=(bif G.ms n d then (bif G.ms m e then (bif aj IntKind.i64 (G.mn b n d*G.mn c m e) then (bif aj IntKind.i64 (G.md n d*G.md m e) then (bif ff (G.mn b n d*G.mn c m e)&&ff (G.md n d*G.md m e)&&decide ((0:Int) < G.md n d*G.md m e) then some (.agg [(.val (.bool (G.qn N))),(.val (.string (G.qs N))),(.val (.string (G.qd N)))]) else none) else none) else none) else O) else O)):=by kernel_rfl
theorem Z3 (j:Sg) (X:Xg) (G:Qg) (b c:Bool) (n d m e:ByteArray):letI I:=(j.val (j.ng (j.val b n)) (j.ms (j.val b n))*j.val (j.ng (j.val false (G.fd e))) (j.ms (j.val false (G.fd e))));letI J:=(j.val (j.ng (j.val c m)) (j.ms (j.val c m))*j.val (j.ng (j.val false (G.fd d))) (j.ms (j.val false (G.fd d))));letI M:Option AV:=(bif G.aL n d then (bif G.aL m e then (bif j.ok (j.ms (j.val b n))&&j.ok (j.ms (j.val false (G.fd e))) then (bif j.ok (j.ms (j.val c m))&&j.ok (j.ms (j.val false (G.fd d))) then (bif j.ok (j.ms I)&&j.ok (j.ms J) then some (.val (.int .i64 (j.fD (j.val (j.ng I) (j.ms I)) (j.val (j.ng J) (j.ms J))))) else none) else none) else none) else none) else none);
  (aD Tryz.prog ⟨lg j X G,ar,aq⟩ 10 10 48 [.agg [.val (.bool b), .val (.string n), .val (.string d)], .agg [.val (.bool c), .val (.string m), .val (.string e)]]=(bif G.ms n d then (bif G.ms m e then (bif aj IntKind.i64 (G.mn b n d*G.md m e) then (bif aj IntKind.i64 (G.mn c m e*G.md n d) then (bif decide (G.mn b n d*G.md m e < G.mn c m e*G.md n d) then some (.val (.int .i64 (-1))) else (bif aj IntKind.i64 (G.mn b n d*G.md m e) then (bif aj IntKind.i64 (G.mn c m e*G.md n d) then (bif decide (G.mn c m e*G.md n d < G.mn b n d*G.md m e) then some (.val (.int .i64 1)) else some (.val (.int .i64 0))) else none) else none)) else none) else none) else M) else M)):=by kernel_rfl
theorem abi (j:Qg) (b c:Bool) (n d m e:ByteArray):aD Tryz.prog ⟨an 56 (fx j fun x y=>j.rat (x+y)) aF,ar,aq⟩ 10 10 44 [.agg [.val (.bool b), .val (.string n), .val (.string d)], .agg [.val (.bool c), .val (.string m), .val (.string e)]]=
  (bif j.aL n d&&j.aL m e then some (.agg [(.val (.bool (j.qn (j.qv b n d+j.qv (!c) m e)))),(.val (.string (j.qs (j.qv b n d+j.qv (!c) m e)))),(.val (.string (j.qd (j.qv b n d+j.qv (!c) m e))))]) else none):=by kernel_rfl
theorem aa6 (j:Sg) (G:Qg) (b c:Bool) (n d m e:ByteArray):aD Tryz.prog ⟨an 90 (pK j G) (an 47 (fx G fun x y=>G.rat (x*y)) aF),ar,aq⟩ 10 10 45 [.agg [.val (.bool b), .val (.string n), .val (.string d)], .agg [.val (.bool c), .val (.string m), .val (.string e)]]=
  (bif G.aL m e then (bif aG (j.ms (j.val c m)) (ByteArray.mk #[]) then some (.tup [(.agg [(.val (.bool false)),(.val (.string (ByteArray.mk #[]))),(.val (.string (ByteArray.mk #[])))]),(.val (.int .i64 10))]) else (bif G.aL n d&&G.aL (j.ms (j.val false (G.fd e))) (j.ms (j.val c m)) then some (.tup [(.agg [(.val (.bool (G.qn (G.qv b n d*G.qv (j.ng (j.val c m)) (j.ms (j.val false (G.fd e))) (j.ms (j.val c m)))))),(.val (.string (G.qs (G.qv b n d*G.qv (j.ng (j.val c m)) (j.ms (j.val false (G.fd e))) (j.ms (j.val c m)))))),(.val (.string (G.qd (G.qv b n d*G.qv (j.ng (j.val c m)) (j.ms (j.val false (G.fd e))) (j.ms (j.val c m))))))]),(.val (.int .i64 0))]) else none)) else none):=by kernel_rfl
theorem aa9 (j:Qg) (b:Bool) (n d:ByteArray):aD Tryz.prog ⟨an 48 (fx j fun x y=> .val (.int .i64 (j.cq x y))) aF,ar,aq⟩ 10 10 55 [.agg [.val (.bool b), .val (.string n), .val (.string d)]]=
  (bif j.aL n d&&j.aL (ByteArray.mk #[]) (ByteArray.mk #[]) then some (.val (.int .i64 (j.cq (j.qv b n d) (j.qv false (ByteArray.mk #[]) (ByteArray.mk #[]))))) else none):=by kernel_rfl
end
end Go.Proofs.YtamcpiicmfielaaGreat.L
namespace Go.Proofs.YtamcpiicmfielaaGreat.L
open Go Go.V Go.RowKit Go.Proofs.YtamcpiicmfielaaGreat.Sp Go.Proofs.YtamcpiicmfielaaGreat.F
open Go.Proofs (Tryz.prog)
noncomputable section
theorem zC {n d m e:ByteArray} (j:ad.aL n d=true) (G:ad.aL m e=true):∀ (b c:Bool),
  bs (aa.val b n).natAbs≤1073741824∧bs (aa.val c m).natAbs≤1073741824∧bs (dn d).natAbs≤1073741824∧bs (dn e).natAbs≤1073741824:=by
 intro b c
 obtain ⟨z1,z2⟩:=yD j
 obtain ⟨z3,z4⟩:=yD G
 have I:=dv b n
 have J:=dv c m
 have M:=p8 d
 have N:=p8 e
 exact ⟨by omega,by omega,by omega,by omega⟩
def vE (j:Qg):TF:=fx j fun x y=>j.rat (x+y)
def rG (j:Qg):TF:=fx j fun x y=>j.rat (x - y)
def vH (j:Qg):TF:=fx j fun x y=>j.rat (x*y)
def zj (j:Qg):TF:=fx j fun x y=> .tup [j.rat (x / y), .val (.int .i64 (j.qe y))]
def vG (j:Qg):TF:=fx j fun x y=> .val (.int .i64 (j.cq x y))
def FG (j:Qg):TF:=jb j fun b n d=> .val (.int .i64 (j.sq (j.qv b n d)))
theorem qm:Entry Tryz.prog 56 (vE ad):=by
 refine aX (E:= ⟨lg aa aZ ad,ar,aq⟩) (u:=10) (d:=10) zP aK mixed (by kernel_rfl) (fun args r h=> ?_)
 unfold vE fx at h
 split at h
 ·rename_i b n d c m e
  simp only [Option.some.injEq,Prod.mk.injEq,Bool.and_eq_true] at h
  obtain ⟨⟨G,I⟩,rfl⟩:=h
  have j:=ZV aa aZ ad b c n d m e
  obtain ⟨a7,bx,bD,b0⟩:=zC G I b c
  have p1:=cU d
  have p2:=cU e
  have J:ad.qv b n d+ad.qv c m e=Rat.divInt (aa.val b n*dn e+aa.val c m*dn d) (dn d*dn e):=KE _ _ (ox d) (ox e)
  have b4:=cO (aa.val b n) (dn e)
  have b5:=cO (aa.val c m) (dn d)
  have b6:=cO (dn d) (dn e)
  have b7:=Bp (aa.val b n*dn e) (aa.val c m*dn d)
  have p3:=Int.mul_pos p1 p2
  have a2:∀ x y,ad.fr x y=Rat.divInt x y:=fun x y=>rfl
  simp only [dp,jd,a2] at j
  rw [G,I,bA (z:=aa.val b n) (by omega),bA (z:=aa.val c m) (by omega),bA (z:=dn d) (by omega),bA (z:=dn e) (by omega),bA (z:=aa.val b n*dn e) (by omega),bA (z:=aa.val c m*dn d) (by omega),jI (z:=dn d*dn e) (by omega),jI (z:=aa.val b n*dn e+aa.val c m*dn d) (by omega),dF (show ¬ dn d*dn e=0 by omega),← J] at j
  have a1:∀ u v:Bool,(u=true→ad.ms n d=true)→(v=true→ad.ms m e=true)→ad.ms n d=u→ad.ms m e=v→aD Tryz.prog ⟨lg aa aZ ad,ar,aq⟩ 10 10 56 [.agg [.val (.bool b), .val (.string n), .val (.string d)], .agg [.val (.bool c), .val (.string m), .val (.string e)]]=some (ad.rat (ad.qv b n d+ad.qv c m e)):=by
   intro u v a3 a4 ab a0
   rw [j,ab,a0]
   cases u
   ·rfl
   ·cases v
    ·rfl
    ·obtain ⟨_,_,O,S,M,a5⟩:=iG (a3 rfl) b
     obtain ⟨_,_,U,Z,N,a6⟩:=iG (a4 rfl) c
     rw [O,S,U,Z]
     have b1:=gJ (x:=aa.val b n) (y:=dn e) M (by omega)
     have b2:=gJ (x:=aa.val c m) (y:=dn d) N (by omega)
     have b3:=gJ (x:=dn d) (y:=dn e) (by omega) (by omega)
     rw [aO (z:=aa.val b n*dn e) (by omega),aO (z:=aa.val c m*dn d) (by omega),aO (z:=aa.val b n*dn e+aa.val c m*dn d) (by omega),aO (z:=dn d*dn e) (by omega),lA (z:=aa.val b n*dn e+aa.val c m*dn d) (by omega),lA (z:=dn d*dn e) (by omega),dT p3,← J]
     rfl
  exact a1 _ _ id id rfl rfl
 ·cases h
theorem td:Entry Tryz.prog 47 (vH ad):=by
 refine aX (E:= ⟨lg aa aZ ad,ar,aq⟩) (u:=10) (d:=10) zP aK mixed (by kernel_rfl) (fun args r h=> ?_)
 unfold vH fx at h
 split at h
 ·rename_i b n d c m e
  simp only [Option.some.injEq,Prod.mk.injEq,Bool.and_eq_true] at h
  obtain ⟨⟨G,I⟩,rfl⟩:=h
  have j:=aaC aa aZ ad b c n d m e
  obtain ⟨a7,bx,bD,b0⟩:=zC G I b c
  have p1:=cU d
  have p2:=cU e
  have J:ad.qv b n d*ad.qv c m e=Rat.divInt (aa.val b n*aa.val c m) (dn d*dn e):=Cp _ _ _ _
  have b3:=cO (aa.val b n) (aa.val c m)
  have b4:=cO (dn d) (dn e)
  have p3:=Int.mul_pos p1 p2
  have a2:∀ x y,ad.fr x y=Rat.divInt x y:=fun x y=>rfl
  simp only [dp,jd,a2] at j
  rw [G,I,bA (z:=aa.val b n) (by omega),bA (z:=aa.val c m) (by omega),bA (z:=dn d) (by omega),bA (z:=dn e) (by omega),jI (z:=aa.val b n*aa.val c m) (by omega),jI (z:=dn d*dn e) (by omega),dF (show ¬ dn d*dn e=0 by omega),← J] at j
  have a1:∀ u v:Bool,(u=true→ad.ms n d=true)→(v=true→ad.ms m e=true)→ad.ms n d=u→ad.ms m e=v→aD Tryz.prog ⟨lg aa aZ ad,ar,aq⟩ 10 10 47 [.agg [.val (.bool b), .val (.string n), .val (.string d)], .agg [.val (.bool c), .val (.string m), .val (.string e)]]=some (ad.rat (ad.qv b n d*ad.qv c m e)):=by
   intro u v a3 a4 ab a0
   rw [j,ab,a0]
   cases u
   ·rfl
   ·cases v
    ·rfl
    ·obtain ⟨_,_,O,S,M,a5⟩:=iG (a3 rfl) b
     obtain ⟨_,_,U,Z,N,a6⟩:=iG (a4 rfl) c
     rw [O,S,U,Z]
     have b1:=gJ (x:=aa.val b n) (y:=aa.val c m) M N
     have b2:=gJ (x:=dn d) (y:=dn e) (by omega) (by omega)
     rw [aO (z:=aa.val b n*aa.val c m) (by omega),aO (z:=dn d*dn e) (by omega),lA (z:=aa.val b n*aa.val c m) (by omega),lA (z:=dn d*dn e) (by omega),dT p3,← J]
     rfl
  exact a1 _ _ id id rfl rfl
 ·cases h
theorem xw:Entry Tryz.prog 48 (vG ad):=by
 refine aX (E:= ⟨lg aa aZ ad,ar,aq⟩) (u:=10) (d:=10) zP aK mixed (by kernel_rfl) (fun args r h=> ?_)
 unfold vG fx at h
 split at h
 ·rename_i b n d c m e
  simp only [Option.some.injEq,Prod.mk.injEq,Bool.and_eq_true] at h
  obtain ⟨⟨J,M⟩,rfl⟩:=h
  have I:=Z3 aa aZ ad b c n d m e
  obtain ⟨bD,b0,b1,b2⟩:=zC J M b c
  have p1:=cU d
  have p2:=cU e
  have N:ad.cq (ad.qv b n d) (ad.qv c m e)=cE (aa.val b n*dn e) (aa.val c m*dn d):=BI _ _ p1 p2
  have b5:=cO (aa.val b n) (dn e)
  have b6:=cO (aa.val c m) (dn d)
  simp only [dp,jd] at I
  rw [J,M,bA (z:=aa.val b n) (by omega),bA (z:=aa.val c m) (by omega),bA (z:=dn d) (by omega),bA (z:=dn e) (by omega),bA (z:=aa.val b n*dn e) (by omega),bA (z:=aa.val c m*dn d) (by omega)] at I
  have a6:aa.fD (aa.val b n*dn e) (aa.val c m*dn d)=ad.cq (ad.qv b n d) (ad.qv c m e):=N.symm
  rw [a6] at I
  have a3:∀ u v:Bool,(u=true→ad.ms n d=true)→(v=true→ad.ms m e=true)→ad.ms n d=u→ad.ms m e=v→aD Tryz.prog ⟨lg aa aZ ad,ar,aq⟩ 10 10 48 [.agg [.val (.bool b), .val (.string n), .val (.string d)], .agg [.val (.bool c), .val (.string m), .val (.string e)]]=some (.val (.int .i64 (ad.cq (ad.qv b n d) (ad.qv c m e)))):=by
   intro u v a4 a5 a1 a2
   rw [I,a1,a2]
   cases u
   ·rfl
   ·cases v
    ·rfl
    ·obtain ⟨_,_,U,Z,O,a7⟩:=iG (a4 rfl) b
     obtain ⟨_,_,ab,a0,S,bx⟩:=iG (a5 rfl) c
     rw [U,Z,ab,a0]
     have b3:=gJ (x:=aa.val b n) (y:=dn e) O (by omega)
     have b4:=gJ (x:=aa.val c m) (y:=dn d) S (by omega)
     rw [aO (z:=aa.val b n*dn e) (by omega),aO (z:=aa.val c m*dn d) (by omega),N]
     unfold cE
     by_cases j:aa.val b n*dn e < aa.val c m*dn d
     ·rw [dT j,if_pos j];rfl
     ·rw [dF j,if_neg j]
      by_cases G:aa.val c m*dn d < aa.val b n*dn e
      ·rw [dT G,if_pos G];rfl
      ·rw [dF G,if_neg G];rfl
  exact a3 _ _ id id rfl rfl
 ·cases h
theorem tg:Entry Tryz.prog 44 (rG ad):=by
 refine aX (E:= ⟨an 56 (fx ad fun x y=>ad.rat (x+y)) aF,ar,aq⟩) (u:=10) (d:=10) ((aH _).add qm) aK mixed (by kernel_rfl) (fun args r h=> ?_)
 unfold rG fx at h
 split at h
 ·rename_i b n d c m e
  simp only [Option.some.injEq,Prod.mk.injEq,Bool.and_eq_true] at h
  obtain ⟨⟨G,I⟩,rfl⟩:=h
  have j:=abi ad b c n d m e
  simp only [DS] at j
  rw [G,I,← Rat.sub_eq_add_neg] at j
  exact j
 ·cases h
theorem ZQ {y:Int} (J:y≠0) (e:ByteArray):ad.qv (aa.ng y) (aa.ms (dn e)) (aa.ms y)=Rat.divInt (dn e) y:=by
 have I:=cU e
 have G:dn (aa.ms y)=(y.natAbs:Int):=by
  unfold dn
  have j:vS (aa.ms y)=y.natAbs:=pQ y
  rw [j,if_neg (by omega)]
 have j:aa.val (aa.ng y) (aa.ms (dn e))=if aa.ng y=true then -(dn e) else dn e:=by
  show (if aa.ng y=true then -((aa.vs (aa.ms (dn e)):Nat):Int) else ((aa.vs (aa.ms (dn e)):Nat):Int))=_
  rw [pQ,show (((dn e).natAbs:Nat):Int)=dn e by omega]
 rw [DR,G,j,cQ]
 by_cases h:y < 0
 ·rw [if_pos (decide_eq_true h),show ((y.natAbs:Nat):Int)= -y by omega,Rat.neg_divInt_neg]
 ·rw [if_neg (by rw [decide_eq_true_eq];exact h),show ((y.natAbs:Nat):Int)=y by omega]
theorem Kh:Entry Tryz.prog 45 (zj ad):=by
 refine aX (E:= ⟨an 90 (pK aa ad) (an 47 (fx ad fun x y=>ad.rat (x*y)) aF),ar,aq⟩) (u:=10) (d:=10) (((aH _).add td).add xx) aK mixed (by kernel_rfl) (fun args r h=> ?_)
 unfold zj fx at h
 split at h
 ·rename_i b n d c m e
  simp only [Option.some.injEq,Prod.mk.injEq,Bool.and_eq_true] at h
  obtain ⟨⟨I,J⟩,rfl⟩:=h
  have G:=aa6 aa ad b c n d m e
  obtain ⟨S,U,Z,ab⟩:=zC I J b c
  have M:ad.qe (ad.qv c m e)=ze (aa.val c m):=MX _ (cU e)
  simp only [jd,qJ] at G
  rw [I,J,u4 (n:=aa.ms (dn e)) (d:=aa.ms (aa.val c m)) (by rw [pC];omega) (by rw [pC];omega)] at G
  rw [G,M]
  by_cases j:aa.val c m=0
  ·have O:ad.qv c m e=0:=by rw [DR,j,Rat.zero_divInt]
   rw [dT j,O,j,Ch,Rat.div_def,Rat.inv_zero,Rat.mul_zero,nO];rfl
  ·have N:Rat.divInt (dn e) (aa.val c m)=(ad.qv c m e)⁻¹:=by rw [DR,Rat.inv_divInt]
   rw [dF j,Ci j,ZQ j,N,← Rat.div_def];rfl
 ·cases h
theorem Y7:ad.aL (ByteArray.mk #[]) (ByteArray.mk #[])=true:=u4 (Nat.zero_le _) (Nat.zero_le _)
theorem VS:Entry Tryz.prog 55 (FG ad):=by
 refine aX (E:= ⟨an 48 (fx ad fun x y=> .val (.int .i64 (ad.cq x y))) aF,ar,aq⟩) (u:=10) (d:=10) ((aH _).add xw) aK mixed (by kernel_rfl) (fun args r h=> ?_)
 unfold FG jb at h
 split at h
 ·rename_i b n d
  simp only [Option.some.injEq,Prod.mk.injEq] at h
  obtain ⟨j,rfl⟩:=h
  rw [aa9,j,Y7,ZR]
  rfl
 ·cases h
end
end Go.Proofs.YtamcpiicmfielaaGreat.L
