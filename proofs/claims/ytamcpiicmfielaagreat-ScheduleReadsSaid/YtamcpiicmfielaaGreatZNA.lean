import Derived.Test.YtamcpiicmfielaaGreatZQA
set_option linter.unusedVariables false
set_option linter.unusedSimpArgs false
namespace Go.Proofs.YtamcpiicmfielaaGreat.L
open Go Go.V Go.RowKit Go.Proofs.YtamcpiicmfielaaGreat.Sp Go.Proofs.YtamcpiicmfielaaGreat.F Go.Proofs.YtamcpiicmfielaaGreatW.PrintWords
open Go.Proofs (Tryz.prog)
noncomputable section
def vY (zs:List Int):Nat:=vB (zs.map fun z=>UInt8.ofNat z.toNat)
theorem aee (x:Nat) (zs:List Int) (h:x < 256):vY ((x:Int) :: zs)=x*256 ^ zs.length+vY zs:=by
 unfold vY
 rw [List.map_cons,la,List.length_map,Int.toNat_natCast,UInt8.toNat_ofNat',Nat.mod_eq_of_lt h]
theorem Pf:vY []=0:=rfl
theorem Pk (zs:List Int) (j x:Nat) (G:j < zs.length) (I:x < 256):vY ((zs.set j (x:Int)).drop j)=x*256 ^ (zs.length - j - 1)+vY (zs.drop (j+1)):=by
 rw [List.drop_eq_getElem_cons (by rw [List.length_set];exact G),List.getElem_set_self,aee _ _ I,List.length_drop,List.length_set,List.drop_set_of_lt (by omega)]
 rw [show zs.length - (j+1)=zs.length - j - 1 by omega]
theorem xr (s:ByteArray) (i:Nat) (N:i < s.size):aR s (s.size - (i+1))=((vS s / 256 ^ i % 256:Nat):Int):=by
 have G:s.size - (i+1) < s.data.toList.length:=by rw [← lX];omega
 unfold aR
 rw [List.getD_eq_getElem?_getD,List.getElem?_eq_getElem G,Option.getD_some]
 have e:s.data.toList=s.data.toList.take (s.size - (i+1)) ++ (s.data.toList[s.size - (i+1)] :: s.data.toList.drop (s.size - (i+1)+1)):=by
  rw [← List.drop_eq_getElem_cons G,List.take_append_drop]
 have J:vS s=vB s.data.toList:=rfl
 have j:(s.data.toList.drop (s.size - (i+1)+1)).length=i:=by rw [List.length_drop,← lX];omega
 have I:=nZ (s.data.toList.drop (s.size - (i+1)+1))
 rw [j] at I
 have O:=(s.data.toList[s.size - (i+1)]).toNat_lt
 have M:vS s=(vB (s.data.toList.take (s.size - (i+1)))*256+(s.data.toList[s.size - (i+1)]).toNat)*256 ^ i+vB (s.data.toList.drop (s.size - (i+1)+1)):=by
  rw [J]
  conv=>lhs;rw [e]
  rw [GQ,List.length_cons,j,la,j,Nat.pow_succ,Nat.add_mul]
  have:∀ a:Nat,a*(256 ^ i*256)=a*256*256 ^ i:=fun a=>by rw [Nat.mul_assoc,Nat.mul_comm 256]
  rw [this]
  omega
 rw [M,Nat.mul_comm _ (256 ^ i),Nat.mul_add_div (Nat.pow_pos (by decide)),Nat.div_eq_of_lt I]
 omega
theorem C1 (s:ByteArray) (i:Nat) (h:s.size≤i):vS s / 256 ^ i % 256=0:=by
 rw [Nat.div_eq_of_lt (Nat.lt_of_lt_of_le (ld s) (Nat.pow_le_pow_right (by decide) h))]
theorem mod_succ (V i:Nat):V % 256 ^ (i+1)=V % 256 ^ i+256 ^ i*(V / 256 ^ i % 256):=by rw [Nat.pow_succ,Nat.mod_mul]
theorem Sa {p n v c o:Nat} (h:v+p*c=o):n % 256*p+v+p*256*(n / 256)+p*c=o+p*n:=by
 have e:p*(n % 256)+p*256*(n / 256)=p*n:=by rw [Nat.mul_assoc,← Nat.mul_add,Nat.mod_add_div]
 rw [Nat.mul_comm (n % 256)]
 omega
theorem kC (n:Nat):IntKind.u8.wrap (n:Int)=((n % 256:Nat):Int):=by rw [rO];rfl
theorem tr (a:Nat):(a:Int).fdiv (256:Int)=((a / 256:Nat):Int):=gA a 256
abbrev ee:List Bool:= [false,true,false,true,true,true,true]
def di (s:ByteArray) (t:ByteArray) (n:Int) (zs:List Int) (c:Int) (i:Int):List AV:=av 60 [(0, .val (.string s)),(1, .val (.string t)),(5, .val (.int .i64 n)),(6, .sl false 5 0 0 zs.length),(7, .val (.int .i64 c)),(8, .val (.int .i64 i))]
def dc (s:ByteArray) (t:ByteArray) (n:Int) (zs:List Int) (c:Int) (i:Int):Hp:= [.row (.ints .u8 zs) 5 .live]
theorem Ru:aJ Tryz.prog 136 ee=some (.loop (lb 136 ee)):=by kernel_rfl
theorem S3:aJ Tryz.prog 136 (false :: ee)=some (lb 136 ee):=by kernel_rfl
theorem Nf (s:ByteArray) (t:ByteArray) (n:Int) (zs:List Int) (c:Int) (i:Int):letI G:=(c+aR s ((↑s.size:Int) - i).toNat+aR t ((↑t.size:Int) - i).toNat);letI j:=((0:Nat)+(n - i).toNat*(1:Nat));
  (aN Tryz.prog bj 136 [0,1,5,6,7,8] (lb 136 ee) (false :: ee) (di s t n zs c i) (dc s t n zs c i)=(bif decide (i≤n) then (bif decide (i≤(↑s.size:Int)) then (bif aj IntKind.i64 ((↑s.size:Int) - i) then (bif decide ((0:Int)≤(↑s.size:Int) - i)&&decide ((↑s.size:Int) - i < (↑s.size:Int)) then (bif aj IntKind.i64 (aR s ((↑s.size:Int) - i).toNat) then (bif aj IntKind.i64 (c+aR s ((↑s.size:Int) - i).toNat) then (bif decide (i≤(↑t.size:Int)) then (bif aj IntKind.i64 ((↑t.size:Int) - i) then (bif decide ((0:Int)≤(↑t.size:Int) - i)&&decide ((↑t.size:Int) - i < (↑t.size:Int)) then (bif aj IntKind.i64 (aR t ((↑t.size:Int) - i).toNat) then (bif aj IntKind.i64 G then (bif aj IntKind.i64 (n - i) then (bif decide ((0:Int)≤n - i)&&decide (n - i < (↑zs.length:Int)) then (bif decide ((0:Nat)+(n - i).toNat*(1:Nat) < zs.length) then (bif aj IntKind.i64 (i+(1:Int)) then some (.normal,av 60 [(0,(.val (.string s))),(1,(.val (.string t))),(5,(.val (.int .i64 n))),(6,(.sl false 5 0 0 zs.length)),(7,(.val (.int .i64 (G.fdiv (256:Int))))),(8,(.val (.int .i64 (i+(1:Int)))))], [(.row (.ints .u8 (zs.set j (IntKind.u8.wrap G))) 5 .live)]) else none) else none) else none) else none) else none) else none) else none) else none) else (bif aj IntKind.i64 (n - i) then (bif decide ((0:Int)≤n - i)&&decide (n - i < (↑zs.length:Int)) then (bif decide ((0:Nat)+(n - i).toNat*(1:Nat) < zs.length) then (bif aj IntKind.i64 (i+(1:Int)) then some (.normal,av 60 [(0,(.val (.string s))),(1,(.val (.string t))),(5,(.val (.int .i64 n))),(6,(.sl false 5 0 0 zs.length)),(7,(.val (.int .i64 ((c+aR s ((↑s.size:Int) - i).toNat).fdiv (256:Int))))),(8,(.val (.int .i64 (i+(1:Int)))))], [(.row (.ints .u8 (zs.set j (IntKind.u8.wrap (c+aR s ((↑s.size:Int) - i).toNat)))) 5 .live)]) else none) else none) else none) else none)) else none) else none) else none) else none) else (bif decide (i≤(↑t.size:Int)) then (bif aj IntKind.i64 ((↑t.size:Int) - i) then (bif decide ((0:Int)≤(↑t.size:Int) - i)&&decide ((↑t.size:Int) - i < (↑t.size:Int)) then (bif aj IntKind.i64 (aR t ((↑t.size:Int) - i).toNat) then (bif aj IntKind.i64 (c+aR t ((↑t.size:Int) - i).toNat) then (bif aj IntKind.i64 (n - i) then (bif decide ((0:Int)≤n - i)&&decide (n - i < (↑zs.length:Int)) then (bif decide ((0:Nat)+(n - i).toNat*(1:Nat) < zs.length) then (bif aj IntKind.i64 (i+(1:Int)) then some (.normal,av 60 [(0,(.val (.string s))),(1,(.val (.string t))),(5,(.val (.int .i64 n))),(6,(.sl false 5 0 0 zs.length)),(7,(.val (.int .i64 ((c+aR t ((↑t.size:Int) - i).toNat).fdiv (256:Int))))),(8,(.val (.int .i64 (i+(1:Int)))))], [(.row (.ints .u8 (zs.set j (IntKind.u8.wrap (c+aR t ((↑t.size:Int) - i).toNat)))) 5 .live)]) else none) else none) else none) else none) else none) else none) else none) else none) else (bif aj IntKind.i64 (n - i) then (bif decide ((0:Int)≤n - i)&&decide (n - i < (↑zs.length:Int)) then (bif decide ((0:Nat)+(n - i).toNat*(1:Nat) < zs.length) then (bif aj IntKind.i64 (i+(1:Int)) then some (.normal,av 60 [(0,(.val (.string s))),(1,(.val (.string t))),(5,(.val (.int .i64 n))),(6,(.sl false 5 0 0 zs.length)),(7,(.val (.int .i64 (c.fdiv (256:Int))))),(8,(.val (.int .i64 (i+(1:Int)))))], [(.row (.ints .u8 (zs.set j (IntKind.u8.wrap c))) 5 .live)]) else none) else none) else none) else none))) else some ((.exit 0),av 60 [(0,(.val (.string s))),(1,(.val (.string t))),(5,(.val (.int .i64 n))),(6,(.sl false 5 0 0 zs.length)),(7,(.val (.int .i64 c))),(8,(.val (.int .i64 i)))], [(.row (.ints .u8 zs) 5 .live)]))):=by kernel_rfl
theorem Oh {s:ByteArray} {t:ByteArray} {n:Int} {zs:List Int} {c:Int} {i:Int} {e:Ex} {T:List AV} {H:Hp} (h:aN Tryz.prog bj 136 [0,1,5,6,7,8] (lb 136 ee) (false :: ee) (di s t n zs c i) (dc s t n zs c i)=some (e,T,H)):V.Ends Tryz.prog false 0 0 (lb 136 ee) (di s t n zs c i) (dc s t n zs c i) e T H:=
 bw (aH _) aK mixed S3 h
def uw (s t:ByteArray) (n:Int) (zs:List Int) (c i:Int):Prop:=s.size≤8796093022208∧t.size≤8796093022208∧n=((max s.size t.size+1:Nat):Int)∧zs.length=max s.size t.size+1∧c=0∧i=1
def Dt (s t:ByteArray) (n:Int) (zs:List Int) (c i:Int) (r:List Int×Int×Int):Prop:=r.1.length=max s.size t.size+1∧vY r.1=vS s+vS t
theorem ZU (s t:ByteArray) (c0:s.size≤8796093022208) (c1:t.size≤8796093022208) (n:Nat) (ct:n=max s.size t.size+1) (d:Nat):∀ (i c:Nat) (zs:List Int),i+d=n→zs.length=n→c≤1→
  dE (vY (zs.drop (n - i))+256 ^ i*c=vS s % 256 ^ i+vS t % 256 ^ i)→
  ∃ r:List Int×Int×Int,aw Tryz.prog (lb 136 ee) (di s t n zs c ((i+1:Nat):Int)) (dc s t n zs c ((i+1:Nat):Int)) (.exit 0) (di s t n r.1 r.2.1 r.2.2) (dc s t n r.1 r.2.1 r.2.2)∧r.1.length=n∧vY r.1=vS s+vS t:=by
 induction d with
 | zero=>
  intro i c zs b4 J b1 G
  have b5:i=n:=by omega
  refine ⟨(zs,(c:Int),((i+1:Nat):Int)), .last (Oh ?_) (by intro h;cases h),J, ?_⟩
  ·rw [Nf,dF (show ¬ (((i+1:Nat):Int)≤n) by omega)]
   rfl
  ·have G:=G.out
   rw [b5,Nat.sub_self,List.drop_zero] at G
   have Z:vS s < 256 ^ (n - 1):=Nat.lt_of_lt_of_le (ld s) (Nat.pow_le_pow_right (by decide) (by omega))
   have ab:vS t < 256 ^ (n - 1):=Nat.lt_of_lt_of_le (ld t) (Nat.pow_le_pow_right (by decide) (by omega))
   have N:256 ^ n=256 ^ (n - 1)*256:=by rw [← Nat.pow_succ];exact congrArg (256 ^ ·) (by omega)
   rw [N] at G
   rw [Nat.mod_eq_of_lt (show vS s < 256 ^ (n - 1)*256 by omega),Nat.mod_eq_of_lt (show vS t < 256 ^ (n - 1)*256 by omega)] at G
   show vY zs=_
   rcases Nat.eq_zero_or_pos c with M | M
   ·rw [M] at G;omega
   ·have:=Nat.le_mul_of_pos_right (256 ^ (n - 1)*256) M
    omega
 | succ d b6=>
  intro i c zs b4 J b1 a4
  have ch:i < n:=by omega
  have a0:n - (i+1) < zs.length:=by omega
  have go:∀ x y:Nat,x < 256→y < 256→x=vS s / 256 ^ i % 256→y=vS t / 256 ^ i % 256→
    aN Tryz.prog bj 136 [0,1,5,6,7,8] (lb 136 ee) (false :: ee) (di s t n zs c ((i+1:Nat):Int)) (dc s t n zs c ((i+1:Nat):Int))=some (.normal,di s t n (zs.set (n - (i+1)) ((c+x+y) % 256:Nat)) ((c+x+y) / 256:Nat) ((i+1+1:Nat):Int),dc s t n (zs.set (n - (i+1)) ((c+x+y) % 256:Nat)) ((c+x+y) / 256:Nat) ((i+1+1:Nat):Int))→
    ∃ r:List Int×Int×Int,aw Tryz.prog (lb 136 ee) (di s t n zs c ((i+1:Nat):Int)) (dc s t n zs c ((i+1:Nat):Int)) (.exit 0) (di s t n r.1 r.2.1 r.2.2) (dc s t n r.1 r.2.1 r.2.2)∧r.1.length=n∧vY r.1=vS s+vS t:=by
   intro x y c2 c3 bD b0 j
   obtain ⟨r,Z,ab⟩:=b6 (i+1) ((c+x+y) / 256) (zs.set (n - (i+1)) ((c+x+y) % 256:Nat)) (by omega) (by rw [List.length_set];exact J) (by omega) (by
    have G:=a4.out
    constructor
    rw [Pk _ _ _ a0 (Nat.mod_lt _ (by decide)),J,show n - (n - (i+1)) - 1=i by omega,show n - (i+1)+1=n - i by omega,mod_succ,mod_succ,← bD,← b0,Nat.pow_succ]
    have N:=Sa (n:=c+x+y) G
    simp only [Nat.mul_add] at N ⊢
    omega)
   exact ⟨r, .more (Oh j) Z,ab⟩
  have j:=Nf s t n zs c ((i+1:Nat):Int)
  have a7:(n:Int) - ((i+1:Nat):Int)=((n - (i+1):Nat):Int):=by omega
  have bx:i < s.size→(s.size:Int) - ((i+1:Nat):Int)=((s.size - (i+1):Nat):Int):=fun h=>by omega
  have U:i < t.size→(t.size:Int) - ((i+1:Nat):Int)=((t.size - (i+1):Nat):Int):=fun h=>by omega
  have a6:((i+1:Nat):Int)+1=((i+1+1:Nat):Int):=by omega
  have b2:=Nat.mod_lt (vS s / 256 ^ i) (show 0 < 256 by decide)
  have b3:=Nat.mod_lt (vS t / 256 ^ i) (show 0 < 256 by decide)
  have a5:=xr s i
  have S:=xr t i
  have nx:=C1 s i
  have a3:=C1 t i
  generalize vS s / 256 ^ i % 256=x at*
  generalize vS t / 256 ^ i % 256=y at*
  have b7:aj .i64 ((n - (i+1):Nat):Int)=true:=bz _ (by omega)
  have b8:aj .i64 ((i+1+1:Nat):Int)=true:=bz _ (by omega)
  refine go x y b2 b3 rfl rfl ?_
  rw [a7,a6,b7,b8,dT (show ((i+1:Nat):Int)≤n by omega),dT (show (0:Int)≤((n - (i+1):Nat):Int) by omega),dT (show ((n - (i+1):Nat):Int) < (zs.length:Int) by omega),Int.toNat_natCast,Nat.zero_add,Nat.mul_one,dT a0] at j
  by_cases a1:i < s.size
  ·rw [dT (show ((i+1:Nat):Int)≤s.size by omega),bx a1,bz (s.size - (i+1)) (by omega),dT (show (0:Int)≤((s.size - (i+1):Nat):Int) by omega),dT (show ((s.size - (i+1):Nat):Int) < (s.size:Int) by omega),Int.toNat_natCast,a5 a1,bz x (by omega),← Int.natCast_add,bz (c+x) (by omega)] at j
   by_cases I:i < t.size
   ·rw [dT (show ((i+1:Nat):Int)≤t.size by omega),U I,bz (t.size - (i+1)) (by omega),dT (show (0:Int)≤((t.size - (i+1):Nat):Int) by omega),dT (show ((t.size - (i+1):Nat):Int) < (t.size:Int) by omega),Int.toNat_natCast,S I,bz y (by omega),← Int.natCast_add,bz (c+x+y) (by omega),kC,tr] at j
    rw [j]
    unfold di dc
    rw [List.length_set]
    rfl
   ·have O:=a3 (by omega)
    rw [dF (show ¬ ((i+1:Nat):Int)≤t.size by omega),kC,tr] at j
    rw [j,O]
    unfold di dc
    rw [List.length_set]
    rfl
  ·have a2:=nx (by omega)
   rw [dF (show ¬ ((i+1:Nat):Int)≤s.size by omega)] at j
   by_cases I:i < t.size
   ·rw [dT (show ((i+1:Nat):Int)≤t.size by omega),U I,bz (t.size - (i+1)) (by omega),dT (show (0:Int)≤((t.size - (i+1):Nat):Int) by omega),dT (show ((t.size - (i+1):Nat):Int) < (t.size:Int) by omega),Int.toNat_natCast,S I,bz y (by omega),← Int.natCast_add,bz (c+y) (by omega),kC,tr] at j
    rw [j,a2]
    unfold di dc
    rw [List.length_set]
    rfl
   ·have O:=a3 (by omega)
    rw [dF (show ¬ ((i+1:Nat):Int)≤t.size by omega),kC,tr] at j
    rw [j,a2,O]
    unfold di dc
    rw [List.length_set]
    rfl
theorem X0 (s t:ByteArray) (n:Int) (zs:List Int) (c i:Int) (h:uw s t n zs c i):∃ r:List Int×Int×Int,aw Tryz.prog (lb 136 ee) (di s t n zs c i) (dc s t n zs c i) (.exit 0) (di s t n r.1 r.2.1 r.2.2) (dc s t n r.1 r.2.1 r.2.2)∧Dt s t n zs c i r:=by
 obtain ⟨j,G,rfl,I,rfl,rfl⟩:=h
 obtain ⟨r,k1,J,M⟩:=ZU s t j G _ rfl (max s.size t.size+1) 0 0 zs (by omega) I (by omega) ⟨by rw [Nat.sub_zero,List.drop_of_length_le (by omega),Pf];simp [Nat.mod_one]⟩
 exact ⟨r,k1,J,M⟩
def Gf (I:ByteArray→ByteArray→Int→List Int→Int→Int→Bool) (j:ByteArray→ByteArray→Int→List Int→Int→Int→List Int×Int×Int) (T:List AV) (H:Hp):Option (Bool×Ex×List AV×Hp):=
 match al T 0,al T 1,al T 5,al T 6,al T 7,al T 8,H with
 | .val (.string s), .val (.string t), .val (.int .i64 n), .sl false 5 0 0 G, .val (.int .i64 c), .val (.int .i64 i), [.row (.ints .u8 zs) 5 .live]=>bif T.length==60 then some (decide (G=zs.length)&&I s t n zs c i, .exit 0,di s t n ((j s t n zs c i).1) ((j s t n zs c i).2.1) ((j s t n zs c i).2.2),dc s t n ((j s t n zs c i).1) ((j s t n zs c i).2.1) ((j s t n zs c i).2.2)) else none
 | _,_,_,_,_,_,_=>none
abbrev Ay:Type:=ByteArray→ByteArray→Int→List Int→Int→Int→Bool
abbrev Af:Type:=ByteArray→ByteArray→Int→List Int→Int→Int→List Int×Int×Int
def IY (j:Ay) (G:Af) (L:aE):aE:=bp 0 136 ee [0,1,5,6,7,8] (Gf j G) L
def jQ (s:ByteArray) (t:ByteArray) (n:Int) (zs:List Int) (c:Int) (i:Int):List Int×Int×Int:=Classical.epsilon fun ρ=>aw Tryz.prog (lb 136 ee) (di s t n zs c i) (dc s t n zs c i) (.exit 0) (di s t n (ρ.1) (ρ.2.1) (ρ.2.2)) (dc s t n (ρ.1) (ρ.2.1) (ρ.2.2))∧Dt s t n zs c i ρ
theorem Ms (s:ByteArray) (t:ByteArray) (n:Int) (zs:List Int) (c:Int) (i:Int) (h:uw s t n zs c i):aw Tryz.prog (lb 136 ee) (di s t n zs c i) (dc s t n zs c i) (.exit 0) (di s t n ((jQ s t n zs c i).1) ((jQ s t n zs c i).2.1) ((jQ s t n zs c i).2.2)) (dc s t n ((jQ s t n zs c i).1) ((jQ s t n zs c i).2.1) ((jQ s t n zs c i).2.2))∧Dt s t n zs c i (jQ s t n zs c i):=Classical.epsilon_spec (X0 s t n zs c i h)
def sG (s:ByteArray) (t:ByteArray) (n:Int) (zs:List Int) (c:Int) (i:Int):Bool:= @decide (uw s t n zs c i) (Classical.propDecidable _)
theorem TZ (s:ByteArray) (t:ByteArray) (n:Int) (zs:List Int) (c:Int) (i:Int) (h:uw s t n zs c i):sG s t n zs c i=true:= @decide_eq_true _ (Classical.propDecidable _) h
theorem adv (T:List AV) (H:Hp) (e:Ex) (I:List AV) (G:Hp) (h:Gf sG jQ T H=some (true,e,I,G)):V.Ends Tryz.prog false 0 0 (.loop (lb 136 ee)) T H e I G:=by
 unfold Gf at h
 split at h
 ·rename_i s t n a3 c i zs N O S U Z ab
  rw [Bool.cond_eq_ite] at h
  split at h
  ·rename_i J
   rw [beq_iff_eq] at J
   simp only [Option.some.injEq,Prod.mk.injEq,Bool.and_eq_true,decide_eq_true_eq] at h
   obtain ⟨⟨k1,a1⟩,rfl,rfl,rfl⟩:=h
   have a2:= @of_decide_eq_true _ (Classical.propDecidable _) a1
   refine Ends.pre (Ms s t n zs c i a2).1.ends (fun α B w D a4 a0=>bm J (fun p M y j=> ?_) a0)
   simp only [List.mem_cons,List.not_mem_nil,or_false] at M
   rcases M with rfl | rfl | rfl | rfl | rfl | rfl
   ·rw [N] at j;exact j
   ·rw [O] at j;exact j
   ·rw [S] at j;exact j
   ·rw [U] at j;rw [← k1];exact j
   ·rw [Z] at j;exact j
   ·rw [ab] at j;exact j
  ·cases h
 ·cases h
theorem Ql {L:aE} (h:aB Tryz.prog L):aB Tryz.prog (IY sG jQ L):=h.br Ru adv
def Hm (j:Sg) (G:Ay) (I:Af):Env:= ⟨an 160 (nY j) aF,ar,IY G I aq⟩
theorem ZT (J:Sg) (M:Ay) (N:Af) (s t:ByteArray):letI G:=(kK (↑s.size:Int) (↑t.size:Int));letI j:=(G+(1:Int));letI I:=(N s t j (List.replicate j.toNat (0:Int)) (0:Int) (1:Int));
  (aD Tryz.prog (Hm J M N) 10 10 136 [.val (.string s), .val (.string t)]=(bif aj IntKind.i64 j then (bif decide ((0:Int)≤G+(1:Int))&&decide (G+(1:Int)≤G+(1:Int))&&decide ((1:Int)*j≤(281474976710656:Int))&&decide (G+(1:Int)≤(9223372036854775807:Int)) then (bif decide (j.toNat=(List.replicate j.toNat (0:Int)).length)&&M s t j (List.replicate j.toNat (0:Int)) (0:Int) (1:Int) then (bif decide ((0:Nat)+I.fst.length*(1:Nat)≤I.fst.length) then some (.val (.string (J.mg (J.vs (ofBytes (List.take (I.fst.length*(1:Nat)) (List.drop (0:Nat) I.fst))))))) else none) else none) else none) else none)):=by kernel_rfl
def y9 (j:Sg) (args:List AV):Option (Bool×AV):=match args with | [.val (.string s), .val (.string t)]=>some (j.ok s&&j.ok t, .val (.string (j.mg (j.vs s+j.vs t)))) | _=>none
theorem kN {s:ByteArray} (h:aa.ok s=true):s.size≤8796093022208:=of_decide_eq_true h
theorem Kc:Entry Tryz.prog 136 (y9 aa):=by
 refine aX (E:=Hm aa sG jQ) (u:=10) (d:=10) ((aH _).add qp) (Ql aB.none).ok mixed (by kernel_rfl) (fun args r h=> ?_)
 unfold y9 at h
 split at h
 ·rename_i s t
  simp only [Option.some.injEq,Prod.mk.injEq,Bool.and_eq_true] at h
  obtain ⟨⟨N,O⟩,rfl⟩:=h
  have z1:=kN N
  have z2:=kN O
  have J:((max s.size t.size:Nat):Int)+1=((max s.size t.size+1:Nat):Int):=by omega
  have G:uw s t ((max s.size t.size+1:Nat):Int) (List.replicate (max s.size t.size+1) 0) 0 1:= ⟨z1,z2,rfl,by simp,rfl,rfl⟩
  obtain ⟨_,S,I⟩:=Ms _ _ _ _ _ _ G
  have j:=ZT aa sG jQ s t
  simp only [Ly,J,Int.toNat_natCast,List.length_replicate,eq_self,decide_true,Nat.mul_one,Nat.zero_add,List.drop_zero] at j
  rw [TZ _ _ _ _ _ _ G] at j
  generalize jQ s t ((max s.size t.size+1:Nat):Int) (List.replicate (max s.size t.size+1) 0) 0 1=q at*
  have M:aa.vs (ofBytes q.1)=aa.vs s+aa.vs t:=I
  rw [bz _ (by omega),dT (show (0:Int)≤((max s.size t.size+1:Nat):Int) by omega),dT (show ((max s.size t.size+1:Nat):Int)≤((max s.size t.size+1:Nat):Int) by omega),dT (show (1:Int)*((max s.size t.size+1:Nat):Int)≤281474976710656 by omega),dT (show ((max s.size t.size+1:Nat):Int)≤9223372036854775807 by omega),dT (show q.1.length≤q.1.length by omega),List.take_length,M] at j
  exact j
 ·cases h
abbrev eg:List Bool:= [false,true,false,true,true,true]
def dj (s:ByteArray) (t:ByteArray) (zs:List Int) (c:Int) (i:Int):List AV:=av 55 [(0, .val (.string s)),(1, .val (.string t)),(5, .sl false 5 0 0 zs.length),(6, .val (.int .i64 c)),(7, .val (.int .i64 i))]
def dd (s:ByteArray) (t:ByteArray) (zs:List Int) (c:Int) (i:Int):Hp:= [.row (.ints .u8 zs) 5 .live]
theorem RG:aJ Tryz.prog 137 eg=some (.loop (lb 137 eg)):=by kernel_rfl
theorem Te:aJ Tryz.prog 137 (false :: eg)=some (lb 137 eg):=by kernel_rfl
theorem Nl (s:ByteArray) (t:ByteArray) (zs:List Int) (c:Int) (i:Int):letI j:=((0:Nat)+((↑s.size:Int) - i).toNat*(1:Nat));letI G:=(aR s ((↑s.size:Int) - i).toNat - c - aR t ((↑t.size:Int) - i).toNat+(256:Int));
  (aN Tryz.prog bj 137 [0,1,5,6,7] (lb 137 eg) (false :: eg) (dj s t zs c i) (dd s t zs c i)=(bif decide (i≤(↑s.size:Int)) then (bif aj IntKind.i64 ((↑s.size:Int) - i) then (bif decide ((0:Int)≤(↑s.size:Int) - i)&&decide ((↑s.size:Int) - i < (↑s.size:Int)) then (bif aj IntKind.i64 (aR s ((↑s.size:Int) - i).toNat) then (bif aj IntKind.i64 (aR s ((↑s.size:Int) - i).toNat - c) then (bif decide (i≤(↑t.size:Int)) then (bif aj IntKind.i64 ((↑t.size:Int) - i) then (bif decide ((0:Int)≤(↑t.size:Int) - i)&&decide ((↑t.size:Int) - i < (↑t.size:Int)) then (bif aj IntKind.i64 (aR t ((↑t.size:Int) - i).toNat) then (bif aj IntKind.i64 (aR s ((↑s.size:Int) - i).toNat - c - aR t ((↑t.size:Int) - i).toNat) then (bif decide (aR s ((↑s.size:Int) - i).toNat - c - aR t ((↑t.size:Int) - i).toNat < (0:Int)) then (bif aj IntKind.i64 G then (bif aj IntKind.i64 ((↑s.size:Int) - i) then (bif decide ((0:Int)≤(↑s.size:Int) - i)&&decide ((↑s.size:Int) - i < (↑zs.length:Int)) then (bif decide ((0:Nat)+((↑s.size:Int) - i).toNat*(1:Nat) < zs.length) then (bif aj IntKind.i64 (i+(1:Int)) then some (.normal,av 55 [(0,(.val (.string s))),(1,(.val (.string t))),(5,(.sl false 5 0 0 zs.length)),(6,(.val (.int .i64 1))),(7,(.val (.int .i64 (i+(1:Int)))))], [(.row (.ints .u8 (zs.set j (IntKind.u8.wrap G))) 5 .live)]) else none) else none) else none) else none) else none) else (bif aj IntKind.i64 ((↑s.size:Int) - i) then (bif decide ((0:Int)≤(↑s.size:Int) - i)&&decide ((↑s.size:Int) - i < (↑zs.length:Int)) then (bif decide ((0:Nat)+((↑s.size:Int) - i).toNat*(1:Nat) < zs.length) then (bif aj IntKind.i64 (i+(1:Int)) then some (.normal,av 55 [(0,(.val (.string s))),(1,(.val (.string t))),(5,(.sl false 5 0 0 zs.length)),(6,(.val (.int .i64 0))),(7,(.val (.int .i64 (i+(1:Int)))))], [(.row (.ints .u8 (zs.set j (IntKind.u8.wrap (aR s ((↑s.size:Int) - i).toNat - c - aR t ((↑t.size:Int) - i).toNat)))) 5 .live)]) else none) else none) else none) else none)) else none) else none) else none) else none) else (bif decide (aR s ((↑s.size:Int) - i).toNat - c < (0:Int)) then (bif aj IntKind.i64 (aR s ((↑s.size:Int) - i).toNat - c+(256:Int)) then (bif aj IntKind.i64 ((↑s.size:Int) - i) then (bif decide ((0:Int)≤(↑s.size:Int) - i)&&decide ((↑s.size:Int) - i < (↑zs.length:Int)) then (bif decide ((0:Nat)+((↑s.size:Int) - i).toNat*(1:Nat) < zs.length) then (bif aj IntKind.i64 (i+(1:Int)) then some (.normal,av 55 [(0,(.val (.string s))),(1,(.val (.string t))),(5,(.sl false 5 0 0 zs.length)),(6,(.val (.int .i64 1))),(7,(.val (.int .i64 (i+(1:Int)))))], [(.row (.ints .u8 (zs.set j (IntKind.u8.wrap (aR s ((↑s.size:Int) - i).toNat - c+(256:Int))))) 5 .live)]) else none) else none) else none) else none) else none) else (bif aj IntKind.i64 ((↑s.size:Int) - i) then (bif decide ((0:Int)≤(↑s.size:Int) - i)&&decide ((↑s.size:Int) - i < (↑zs.length:Int)) then (bif decide ((0:Nat)+((↑s.size:Int) - i).toNat*(1:Nat) < zs.length) then (bif aj IntKind.i64 (i+(1:Int)) then some (.normal,av 55 [(0,(.val (.string s))),(1,(.val (.string t))),(5,(.sl false 5 0 0 zs.length)),(6,(.val (.int .i64 0))),(7,(.val (.int .i64 (i+(1:Int)))))], [(.row (.ints .u8 (zs.set j (IntKind.u8.wrap (aR s ((↑s.size:Int) - i).toNat - c)))) 5 .live)]) else none) else none) else none) else none))) else none) else none) else none) else none) else some ((.exit 0),av 55 [(0,(.val (.string s))),(1,(.val (.string t))),(5,(.sl false 5 0 0 zs.length)),(6,(.val (.int .i64 c))),(7,(.val (.int .i64 i)))], [(.row (.ints .u8 zs) 5 .live)]))):=by kernel_rfl
theorem Oq {s:ByteArray} {t:ByteArray} {zs:List Int} {c:Int} {i:Int} {e:Ex} {T:List AV} {H:Hp} (h:aN Tryz.prog bj 137 [0,1,5,6,7] (lb 137 eg) (false :: eg) (dj s t zs c i) (dd s t zs c i)=some (e,T,H)):V.Ends Tryz.prog false 0 0 (lb 137 eg) (dj s t zs c i) (dd s t zs c i) e T H:=
 bw (aH _) aK mixed Te h
def uI (s t:ByteArray) (zs:List Int) (c i:Int):Prop:=s.size≤8796093022208∧t.size≤8796093022208∧vS t≤vS s∧zs.length=s.size∧c=0∧i=1
def DE (s t:ByteArray) (zs:List Int) (c i:Int) (r:List Int×Int×Int):Prop:=r.1.length=s.size∧vY r.1=vS s - vS t
theorem abh (s t:ByteArray) (c1:s.size≤8796093022208) (c2:t.size≤8796093022208) (c0:vS t≤vS s) (d:Nat):∀ (i c:Nat) (zs:List Int),i+d=s.size→zs.length=s.size→c≤1→
  dE (vY (zs.drop (s.size - i))+vS t % 256 ^ i=vS s % 256 ^ i+256 ^ i*c)→
  ∃ r:List Int×Int×Int,aw Tryz.prog (lb 137 eg) (dj s t zs c ((i+1:Nat):Int)) (dd s t zs c ((i+1:Nat):Int)) (.exit 0) (dj s t r.1 r.2.1 r.2.2) (dd s t r.1 r.2.1 r.2.2)∧r.1.length=s.size∧vY r.1=vS s - vS t:=by
 induction d with
 | zero=>
  intro i c zs b2 J b1 I
  have b3:i=s.size:=by omega
  refine ⟨(zs,(c:Int),((i+1:Nat):Int)), .last (Oq ?_) (by intro h;cases h),J, ?_⟩
  ·rw [Nl,dF (show ¬ (((i+1:Nat):Int)≤s.size) by omega)]
   rfl
  ·have I:=I.out
   have U:=ld s
   rw [b3,Nat.sub_self,List.drop_zero,Nat.mod_eq_of_lt U,Nat.mod_eq_of_lt (show vS t < 256 ^ s.size by omega)] at I
   have Z:vY zs < 256 ^ s.size:=by
    have:=nZ (zs.map fun z=>UInt8.ofNat z.toNat)
    rw [List.length_map,J] at this
    exact this
   show vY zs=_
   rcases (show c=0∨c=1 by omega) with S | S
   ·rw [S] at I;omega
   ·rw [S] at I;omega
 | succ d b7=>
  intro i c zs b2 J b1 a2
  have b4:i < s.size:=by omega
  have a0:s.size - (i+1) < zs.length:=by omega
  have go:∀ x y z b:Nat,x < 256→y < 256→x=vS s / 256 ^ i % 256→y=vS t / 256 ^ i % 256→z < 256→b≤1→z+y+c=x+256*b→
    aN Tryz.prog bj 137 [0,1,5,6,7] (lb 137 eg) (false :: eg) (dj s t zs c ((i+1:Nat):Int)) (dd s t zs c ((i+1:Nat):Int))=some (.normal,dj s t (zs.set (s.size - (i+1)) (z:Nat)) (b:Nat) ((i+1+1:Nat):Int),dd s t (zs.set (s.size - (i+1)) (z:Nat)) (b:Nat) ((i+1+1:Nat):Int))→
    ∃ r:List Int×Int×Int,aw Tryz.prog (lb 137 eg) (dj s t zs c ((i+1:Nat):Int)) (dd s t zs c ((i+1:Nat):Int)) (.exit 0) (dj s t r.1 r.2.1 r.2.2) (dd s t r.1 r.2.1 r.2.2)∧r.1.length=s.size∧vY r.1=vS s - vS t:=by
   intro x y z b c3 c4 bx bD b5 b0 b6 j
   obtain ⟨r,U,Z⟩:=b7 (i+1) b (zs.set (s.size - (i+1)) (z:Nat)) (by omega) (by rw [List.length_set];exact J) b0 (by
    have I:=a2.out
    constructor
    rw [Pk _ _ _ a0 b5,J,show s.size - (s.size - (i+1)) - 1=i by omega,show s.size - (i+1)+1=s.size - i by omega,mod_succ,mod_succ,← bx,← bD,Nat.pow_succ]
    have ab:=congrArg (256 ^ i* ·) b6
    simp only [Nat.mul_add] at ab
    rw [← Nat.mul_assoc] at ab
    rw [Nat.mul_comm z]
    omega)
   exact ⟨r, .more (Oq j) U,Z⟩
  have j:=Nl s t zs c ((i+1:Nat):Int)
  have a6:(s.size:Int) - ((i+1:Nat):Int)=((s.size - (i+1):Nat):Int):=by omega
  have a7:i < t.size→(t.size:Int) - ((i+1:Nat):Int)=((t.size - (i+1):Nat):Int):=fun h=>by omega
  have a5:((i+1:Nat):Int)+1=((i+1+1:Nat):Int):=by omega
  have N:=Nat.mod_lt (vS s / 256 ^ i) (show 0 < 256 by decide)
  have O:=Nat.mod_lt (vS t / 256 ^ i) (show 0 < 256 by decide)
  have a3:=xr s i b4
  have a4:=xr t i
  have b8:=C1 t i
  generalize vS s / 256 ^ i % 256=x at*
  generalize vS t / 256 ^ i % 256=y at*
  have ch:aj .i64 ((s.size - (i+1):Nat):Int)=true:=bz _ (by omega)
  have ct:aj .i64 ((i+1+1:Nat):Int)=true:=bz _ (by omega)
  rw [a6,a5,ch,ct,dT (show ((i+1:Nat):Int)≤s.size by omega),dT (show (0:Int)≤((s.size - (i+1):Nat):Int) by omega),dT (show ((s.size - (i+1):Nat):Int) < (zs.length:Int) by omega),dT (show ((s.size - (i+1):Nat):Int) < (s.size:Int) by omega),Int.toNat_natCast,Nat.zero_add,Nat.mul_one,dT a0,a3,bz x (by omega),aO (show -9223372036854775808≤(x:Int) - c∧(x:Int) - c≤9223372036854775807 by omega)] at j
  by_cases a1:i < t.size
  ·rw [dT (show ((i+1:Nat):Int)≤t.size by omega),a7 a1,bz (t.size - (i+1)) (by omega),dT (show (0:Int)≤((t.size - (i+1):Nat):Int) by omega),dT (show ((t.size - (i+1):Nat):Int) < (t.size:Int) by omega),Int.toNat_natCast,a4 a1,bz y (by omega),aO (show -9223372036854775808≤(x:Int) - c - y∧(x:Int) - c - y≤9223372036854775807 by omega)] at j
   by_cases M:(x:Int) - c - y < 0
   ·have G:(x:Int) - c - y+256=((x+256 - c - y:Nat):Int):=by omega
    rw [dT M,G,bz _ (by omega),kC,Nat.mod_eq_of_lt (by omega)] at j
    refine go x y (x+256 - c - y) 1 N O rfl rfl (by omega) (by omega) (by omega) ?_
    rw [j]
    unfold dj dd
    rw [List.length_set]
    rfl
   ·have G:(x:Int) - c - y=((x - c - y:Nat):Int):=by omega
    rw [dF M,G,kC,Nat.mod_eq_of_lt (by omega)] at j
    refine go x y (x - c - y) 0 N O rfl rfl (by omega) (by omega) (by omega) ?_
    rw [j]
    unfold dj dd
    rw [List.length_set]
    rfl
  ·have c5:=b8 (by omega)
   rw [dF (show ¬ ((i+1:Nat):Int)≤t.size by omega)] at j
   by_cases M:(x:Int) - c < 0
   ·have G:(x:Int) - c+256=((x+256 - c:Nat):Int):=by omega
    rw [dT M,G,bz _ (by omega),kC,Nat.mod_eq_of_lt (by omega)] at j
    refine go x y (x+256 - c) 1 N O rfl rfl (by omega) (by omega) (by omega) ?_
    rw [j]
    unfold dj dd
    rw [List.length_set]
    rfl
   ·have G:(x:Int) - c=((x - c:Nat):Int):=by omega
    rw [dF M,G,kC,Nat.mod_eq_of_lt (by omega)] at j
    refine go x y (x - c) 0 N O rfl rfl (by omega) (by omega) (by omega) ?_
    rw [j]
    unfold dj dd
    rw [List.length_set]
    rfl
theorem Yc (s t:ByteArray) (zs:List Int) (c i:Int) (h:uI s t zs c i):∃ r:List Int×Int×Int,aw Tryz.prog (lb 137 eg) (dj s t zs c i) (dd s t zs c i) (.exit 0) (dj s t r.1 r.2.1 r.2.2) (dd s t r.1 r.2.1 r.2.2)∧DE s t zs c i r:=by
 obtain ⟨j,G,I,J,rfl,rfl⟩:=h
 obtain ⟨r,k1,M,N⟩:=abh s t j G I s.size 0 0 zs (by omega) J (by omega) ⟨by rw [Nat.sub_zero,List.drop_of_length_le (by omega),Pf];simp [Nat.mod_one]⟩
 exact ⟨r,k1,M,N⟩
def Gt (I:ByteArray→ByteArray→List Int→Int→Int→Bool) (j:ByteArray→ByteArray→List Int→Int→Int→List Int×Int×Int) (T:List AV) (H:Hp):Option (Bool×Ex×List AV×Hp):=
 match al T 0,al T 1,al T 5,al T 6,al T 7,H with
 | .val (.string s), .val (.string t), .sl false 5 0 0 G, .val (.int .i64 c), .val (.int .i64 i), [.row (.ints .u8 zs) 5 .live]=>bif T.length==55 then some (decide (G=zs.length)&&I s t zs c i, .exit 0,dj s t ((j s t zs c i).1) ((j s t zs c i).2.1) ((j s t zs c i).2.2),dd s t ((j s t zs c i).1) ((j s t zs c i).2.1) ((j s t zs c i).2.2)) else none
 | _,_,_,_,_,_=>none
abbrev AF:Type:=ByteArray→ByteArray→List Int→Int→Int→Bool
abbrev Am:Type:=ByteArray→ByteArray→List Int→Int→Int→List Int×Int×Int
def I4 (j:AF) (G:Am) (L:aE):aE:=bp 0 137 eg [0,1,5,6,7] (Gt j G) L
def jT (s:ByteArray) (t:ByteArray) (zs:List Int) (c:Int) (i:Int):List Int×Int×Int:=Classical.epsilon fun ρ=>aw Tryz.prog (lb 137 eg) (dj s t zs c i) (dd s t zs c i) (.exit 0) (dj s t (ρ.1) (ρ.2.1) (ρ.2.2)) (dd s t (ρ.1) (ρ.2.1) (ρ.2.2))∧DE s t zs c i ρ
theorem MD (s:ByteArray) (t:ByteArray) (zs:List Int) (c:Int) (i:Int) (h:uI s t zs c i):aw Tryz.prog (lb 137 eg) (dj s t zs c i) (dd s t zs c i) (.exit 0) (dj s t ((jT s t zs c i).1) ((jT s t zs c i).2.1) ((jT s t zs c i).2.2)) (dd s t ((jT s t zs c i).1) ((jT s t zs c i).2.1) ((jT s t zs c i).2.2))∧DE s t zs c i (jT s t zs c i):=Classical.epsilon_spec (Yc s t zs c i h)
def sP (s:ByteArray) (t:ByteArray) (zs:List Int) (c:Int) (i:Int):Bool:= @decide (uI s t zs c i) (Classical.propDecidable _)
theorem Uf (s:ByteArray) (t:ByteArray) (zs:List Int) (c:Int) (i:Int) (h:uI s t zs c i):sP s t zs c i=true:= @decide_eq_true _ (Classical.propDecidable _) h
theorem adH (T:List AV) (H:Hp) (e:Ex) (I:List AV) (G:Hp) (h:Gt sP jT T H=some (true,e,I,G)):V.Ends Tryz.prog false 0 0 (.loop (lb 137 eg)) T H e I G:=by
 unfold Gt at h
 split at h
 ·rename_i s t a2 c i zs N O S U Z
  rw [Bool.cond_eq_ite] at h
  split at h
  ·rename_i J
   rw [beq_iff_eq] at J
   simp only [Option.some.injEq,Prod.mk.injEq,Bool.and_eq_true,decide_eq_true_eq] at h
   obtain ⟨⟨k1,a0⟩,rfl,rfl,rfl⟩:=h
   have a1:= @of_decide_eq_true _ (Classical.propDecidable _) a0
   refine Ends.pre (MD s t zs c i a1).1.ends (fun α B w D a3 ab=>bm J (fun p M y j=> ?_) ab)
   simp only [List.mem_cons,List.not_mem_nil,or_false] at M
   rcases M with rfl | rfl | rfl | rfl | rfl
   ·rw [N] at j;exact j
   ·rw [O] at j;exact j
   ·rw [S] at j;rw [← k1];exact j
   ·rw [U] at j;exact j
   ·rw [Z] at j;exact j
  ·cases h
 ·cases h
theorem Qx {L:aE} (h:aB Tryz.prog L):aB Tryz.prog (I4 sP jT L):=h.br RG adH
def Hy (j:Sg) (G:AF) (I:Am):Env:= ⟨an 160 (nY j) aF,ar,I4 G I aq⟩
theorem abg (G:Sg) (I:AF) (j:Am) (s t:ByteArray):aD Tryz.prog (Hy G I j) 10 10 137 [.val (.string s), .val (.string t)]=
  (bif decide ((↑s.size:Int)≤(↑s.size:Int))&&decide ((1:Int)*(↑s.size:Int)≤(281474976710656:Int))&&decide ((↑s.size:Int)≤(9223372036854775807:Int)) then (bif decide ((↑s.size:Int).toNat=(List.replicate (↑s.size:Int).toNat (0:Int)).length)&&I s t (List.replicate (↑s.size:Int).toNat (0:Int)) (0:Int) (1:Int) then (bif decide ((0:Nat)+(j s t (List.replicate (↑s.size:Int).toNat (0:Int)) (0:Int) (1:Int)).fst.length*(1:Nat)≤(j s t (List.replicate (↑s.size:Int).toNat (0:Int)) (0:Int) (1:Int)).fst.length) then some (.val (.string (G.mg (G.vs (ofBytes (List.take ((j s t (List.replicate (↑s.size:Int).toNat (0:Int)) (0:Int) (1:Int)).fst.length*(1:Nat)) (List.drop (0:Nat) (j s t (List.replicate (↑s.size:Int).toNat (0:Int)) (0:Int) (1:Int)).fst))))))) else none) else none) else none):=by kernel_rfl
def zk (j:Sg) (args:List AV):Option (Bool×AV):=match args with | [.val (.string s), .val (.string t)]=>some (j.ok s&&j.ok t&&decide (j.vs t≤j.vs s), .val (.string (j.mg (j.vs s - j.vs t)))) | _=>none
theorem Kk:Entry Tryz.prog 137 (zk aa):=by
 refine aX (E:=Hy aa sP jT) (u:=10) (d:=10) ((aH _).add qp) (Qx aB.none).ok mixed (by kernel_rfl) (fun args r h=> ?_)
 unfold zk at h
 split at h
 ·rename_i s t
  simp only [Option.some.injEq,Prod.mk.injEq,Bool.and_eq_true,decide_eq_true_eq] at h
  obtain ⟨⟨⟨M,N⟩,O⟩,rfl⟩:=h
  have z1:=kN M
  have z2:=kN N
  have G:uI s t (List.replicate s.size 0) 0 1:= ⟨z1,z2,O,by simp,rfl,rfl⟩
  obtain ⟨_,S,I⟩:=MD _ _ _ _ _ G
  have j:=abg aa sP jT s t
  simp only [Int.toNat_natCast,List.length_replicate,eq_self,decide_true,Nat.mul_one,Nat.zero_add,List.drop_zero] at j
  rw [Uf _ _ _ _ _ G] at j
  generalize jT s t (List.replicate s.size 0) 0 1=q at*
  have J:aa.vs (ofBytes q.1)=aa.vs s - aa.vs t:=I
  rw [dT (show (s.size:Int)≤(s.size:Int) by omega),dT (show (1:Int)*(s.size:Int)≤281474976710656 by omega),dT (show (s.size:Int)≤9223372036854775807 by omega),dT (show q.1.length≤q.1.length by omega),List.take_length,J] at j
  exact j
 ·cases h
end
end Go.Proofs.YtamcpiicmfielaaGreat.L
namespace Go.Proofs.YtamcpiicmfielaaGreat.L
open Go Go.V Go.RowKit Go.Proofs.YtamcpiicmfielaaGreat.Sp Go.Proofs.YtamcpiicmfielaaGreat.F Go.Proofs.YtamcpiicmfielaaGreatW.PrintWords
open Go.Proofs (Tryz.prog)
noncomputable section
theorem qJ (z:Int):aG (aa.ms z) (ByteArray.mk #[])=decide (z=0):=by
 show aG (az z.natAbs) _=_
 rw [qH]
 exact decide_eq_decide.2 (by omega)
theorem LH {zs:List Int} {n:Nat} (h:zs.map (fun z=>UInt8.ofNat z.toNat)=toB n):ofBytes zs=az n:=by
 apply nj
 rw [oQ]
 exact h
def zf (j:Sg) (args:List AV):Option (Bool×AV):=match args with | [.val (.int .i64 z)]=>some (decide (0≤z)&&decide (z≤9223372036854775807), .val (.string (j.mg z.toNat))) | _=>none
theorem VN:Entry Tryz.prog 159 (zf aa):=by
 refine aX (E:=Hq sK jR) (u:=10) (d:=10) (aH _) (Qp aB.none).ok mixed (by kernel_rfl) (fun args r h=> ?_)
 unfold zf at h
 split at h
 ·rename_i z
  simp only [Option.some.injEq,Prod.mk.injEq,Bool.and_eq_true,decide_eq_true_eq] at h
  obtain ⟨⟨I,U⟩,rfl⟩:=h
  obtain ⟨n,rfl⟩:=Int.eq_ofNat_of_zero_le I
  rw [Int.toNat_natCast]
  have j:=aat sK jR (n:Int)
  by_cases J:n < 256
  ·rw [dT (show (n:Int) < 256 by omega)] at j
   by_cases G:n=0
   ·subst G
    rw [dT (show ((0:Nat):Int)=0 from rfl)] at j
    rw [j]
    show _=some (AV.val (.string (az 0)))
    unfold az
    rw [toB_zero]
    rfl
   ·rw [dF (show ¬ (n:Int)=0 by omega)] at j
    rw [j]
    show some (AV.val (.string (ofBytes [IntKind.u8.wrap (n:Int)])))=some (AV.val (.string (az n)))
    rw [LH (n:=n)]
    rw [toB_pos G,Nat.div_eq_of_lt J,toB_zero,List.nil_append,kC,Nat.mod_eq_of_lt J]
    rfl
  ·have M:uA (n:Int) 8 [0,0,0,0,0,0,0,0]:= ⟨I,U,rfl,rfl⟩
   obtain ⟨_,k,N,Z,O,S⟩:=Mw _ _ _ M
   rw [dF (show ¬ (n:Int) < 256 by omega),T7 _ _ _ M] at j
   generalize jR (n:Int) 8 [0,0,0,0,0,0,0,0]=r at*
   rw [N,O,dT (show 8≤8 by omega),dT (show (0:Int)≤(k:Int) by omega),dT (show (k:Int)≤8 by omega),Int.toNat_natCast,dT (show 0+k*1+(8 - k)*1≤8 by omega)] at j
   rw [j]
   show some (AV.val (.string (ofBytes _)))=some (AV.val (.string (az n)))
   rw [LH (n:=n)]
   rw [Nat.zero_add,Nat.mul_one,Nat.mul_one,List.take_of_length_le (by rw [List.length_drop];omega)]
   exact S
 ·cases h
theorem aaE (j:Sg) (z:Int):aD Tryz.prog ⟨an 159 (zf j) aF,ar,aq⟩ 10 10 124 [.val (.int .i64 z)]=
  (bif decide ((0:Int)≤z) then (bif decide ((0:Int)≤z)&&decide (z≤(9223372036854775807:Int)) then some (.agg [(.val (.bool false)),(.val (.string (j.mg z.toNat)))]) else none) else (bif decide (z=IntKind.i64.wrap ((0:Int) - z)) then some (.agg [(.val (.bool true)),(.val (.string (ByteArray.mk #[(128:UInt8),(0:UInt8),(0:UInt8),(0:UInt8),(0:UInt8),(0:UInt8),(0:UInt8),(0:UInt8)])))]) else (bif decide ((0:Int)≤IntKind.i64.wrap ((0:Int) - z))&&decide (IntKind.i64.wrap ((0:Int) - z)≤(9223372036854775807:Int)) then some (.agg [(.val (.bool true)),(.val (.string (j.mg (IntKind.i64.wrap ((0:Int) - z)).toNat)))]) else none))):=by kernel_rfl
theorem YB:ByteArray.mk #[(128:UInt8),(0:UInt8),(0:UInt8),(0:UInt8),(0:UInt8),(0:UInt8),(0:UInt8),(0:UInt8)]=az 9223372036854775808:=
 (tH (ByteArray.mk #[(128:UInt8),(0:UInt8),(0:UInt8),(0:UInt8),(0:UInt8),(0:UInt8),(0:UInt8),(0:UInt8)]) (by show ¬ (128:UInt8)=0;decide)).symm
theorem W3 {z:Int} (h:z < 0):aa.int z= .agg [.val (.bool true), .val (.string (aa.mg z.natAbs))]:=by
 unfold Sg.int
 rw [cQ,decide_eq_true h];rfl
theorem tA {z:Int} (h:0≤z):aa.int z= .agg [.val (.bool false), .val (.string (aa.mg z.natAbs))]:=by
 unfold Sg.int
 rw [cQ,decide_eq_false (by omega)];rfl
theorem tf:Entry Tryz.prog 124 (kB aa):=by
 refine aX (E:= ⟨an 159 (zf aa) aF,ar,aq⟩) (u:=10) (d:=10) ((aH _).add VN) aK mixed (by kernel_rfl) (fun args r h=> ?_)
 unfold kB at h
 split at h
 ·rename_i z
  simp only [Option.some.injEq,Prod.mk.injEq] at h
  obtain ⟨I,rfl⟩:=h
  unfold cI at I
  simp only [Bool.and_eq_true,decide_eq_true_eq] at I
  have j:=aaE aa z
  by_cases G:0≤z
  ·rw [dT G,dT I.2] at j
   rw [j,tA G,show z.toNat=z.natAbs by omega]
   rfl
  ·rw [dF G] at j
   rw [W3 (by omega)]
   by_cases J:z= -9223372036854775808
   ·subst J
    rw [dT (show (-9223372036854775808:Int)=IntKind.i64.wrap (0 - -9223372036854775808) by rw [IntKind.wrap_i64];decide)] at j
    rw [j,YB]
    rfl
   ·have M:IntKind.i64.wrap (0 - z)= -z:=by rw [IntKind.wrap_i64];omega
    rw [M,dF (show ¬ z= -z by omega),dT (show 0≤ -z by omega),dT (show -z≤9223372036854775807 by omega)] at j
    rw [j,show (-z).toNat=z.natAbs by omega]
    rfl
 ·cases h
theorem YF (z:Int):aa.ms (-z)=aa.ms z:=by
 show az (-z).natAbs=az z.natAbs
 rw [Int.natAbs_neg]
theorem B2:Entry Tryz.prog 127 (kX aa):=by
 refine aX (E:= ⟨an 130 (nU aa) aF,ar,aq⟩) (u:=10) (d:=10) ((aH _).add sZ) aK mixed (by kernel_rfl) (fun args r h=> ?_)
 unfold kX at h
 split at h
 ·rename_i b s
  simp only [Option.some.injEq,Prod.mk.injEq] at h
  obtain ⟨J,rfl⟩:=h
  have I:=aaD aa b s
  generalize aa.val b s=z at*
  rw [qJ,cQ] at I
  rw [I]
  unfold Sg.int
  rw [YF,cQ]
  by_cases j:z < 0
  ·rw [dT j,dF (show ¬ -z < 0 by omega)];rfl
  ·rw [dF j]
   by_cases G:z=0
   ·rw [dT G,dF (show ¬ -z < 0 by omega)];rfl
   ·rw [dF G,dT (show -z < 0 by omega)];rfl
 ·cases h
end
end Go.Proofs.YtamcpiicmfielaaGreat.L
namespace Go.Proofs.YtamcpiicmfielaaGreat.L
open Go Go.V Go.RowKit Go.Proofs.YtamcpiicmfielaaGreat.Sp Go.Proofs.YtamcpiicmfielaaGreat.F Go.Proofs.YtamcpiicmfielaaGreatW.PrintWords
open Go.Proofs (Tryz.prog)
noncomputable section
theorem Lb:∀ (l m:List UInt8),l.length=m.length→(Op.bytesLess l m=true↔vB l < vB m)
 | [], [],_=>by simp [Op.bytesLess]
 | [],_ :: _,h=>by simp at h
 | _ :: _, [],h=>by simp at h
 | a :: x,b :: y,h=>by
  have I:x.length=y.length:=by simpa using h
  have O:=Lb x y I
  have N:=nZ x
  have S:=nZ y
  rw [la,la,I]
  rw [I] at N
  unfold Op.bytesLess
  rw [Bool.or_eq_true,Bool.and_eq_true,decide_eq_true_eq,beq_iff_eq,O]
  have J:a < b↔a.toNat < b.toNat:=UInt8.lt_iff_toNat_lt
  have M:a=b↔a.toNat=b.toNat:= ⟨fun h=>h ▸ rfl,fun h=>UInt8.toNat_inj.1 h⟩
  rw [J,M]
  generalize 256 ^ y.length=B at*
  generalize a.toNat=p at*
  generalize b.toNat=q at*
  constructor
  ·rintro (G | ⟨G,j⟩)
   ·have:=Nat.mul_le_mul_right B (show p+1≤q by omega)
    rw [Nat.add_mul] at this
    omega
   ·subst G;omega
  ·intro G
   rcases Nat.lt_trichotomy p q with j | j | j
   ·exact Or.inl j
   ·subst j;exact Or.inr ⟨rfl,by omega⟩
   ·have:=Nat.mul_le_mul_right B (show q+1≤p by omega)
    rw [Nat.add_mul] at this
    omega
def vF (j:Sg) (args:List AV):Option (Bool×AV):=match args with | [.val (.string s), .val (.string t)]=>some (aG s (j.mg (j.vs s))&&aG t (j.mg (j.vs t)), .val (.int .i64 (j.cmp (j.vs s) (j.vs t)))) | _=>none
theorem Lt {n m:Nat} (h:(az n).size < (az m).size):n < m:=by
 rw [kV,kV] at h
 rcases Nat.lt_or_ge n m with j | j
 ·exact j
 ·have:=du j
  unfold bs at this
  omega
theorem BZ:Entry Tryz.prog 133 (vF aa):=by
 refine aX (E:=m9) (u:=10) (d:=10) (aH _) aK mixed (by kernel_rfl) (fun args r h=> ?_)
 unfold vF at h
 split at h
 ·rename_i s t
  simp only [Option.some.injEq,Prod.mk.injEq,Bool.and_eq_true] at h
  obtain ⟨⟨G,I⟩,rfl⟩:=h
  rw [vy] at G I
  have G:s=az (vS s):=of_decide_eq_true G
  have I:t=az (vS t):=of_decide_eq_true I
  have N:=Z4 s t
  show _=some (AV.val (.int .i64 (b9 (vS s) (vS t))))
  rw [N]
  generalize vS s=n at*
  generalize vS t=m at*
  subst G I
  by_cases M:((az n).size:Int)=((az m).size:Int)
  ·rw [dT M]
   have S:(toB n).length=(toB m).length:=by rw [← kV,← kV];omega
   have U:V.strLt (az n) (az m)=decide (n < m):=by
    rw [Bool.eq_iff_iff]
    show Op.bytesLess (az n).data.toList (az m).data.toList=true↔_
    rw [oQ,oQ,Lb _ _ S,zE,zE,decide_eq_true_eq]
   have O:aG (az n) (az m)=decide (n=m):=by
    rw [vy]
    refine decide_eq_decide.2 ⟨fun h=> ?_,fun h=>h ▸ rfl⟩
    have:=congrArg vS h
    rw [jc,jc] at this
    exact this
   rw [U,O]
   unfold b9
   by_cases j:n < m
   ·rw [dT j,if_pos j];rfl
   ·rw [dF j,if_neg j]
    by_cases J:n=m
    ·rw [dT J,if_neg (by omega)];rfl
    ·rw [dF J,if_pos (by omega)];rfl
  ·rw [dF M]
   unfold b9
   by_cases j:((az n).size:Int) < ((az m).size:Int)
   ·rw [dT j,if_pos (Lt (by omega))];rfl
   ·rw [dF j]
    have J:m < n:=Lt (by omega)
    rw [if_neg (by omega),if_pos J];rfl
 ·cases h
def G5 (j:Sg):FuncId→List AV→Option (Bool×AV):=an 130 (nU j) (an 133 (vF j) aF)
def zM (j:Sg):FuncId→List AV→Option (Bool×AV):=an 130 (nU j) (an 133 (vF j) (an 136 (y9 j) (an 137 (zk j) (an 131 (zo j) (an 124 (kB j) aF)))))
theorem Z2 (j:Sg) (b c:Bool) (s t:ByteArray):aD Tryz.prog ⟨G5 j,ar,aq⟩ 10 10 97 [.agg [.val (.bool b), .val (.string s)], .agg [.val (.bool c), .val (.string t)]]=
  (bif bif true then !j.ng (j.val b s)==j.ng (j.val c t) else j.ng (j.val b s)==j.ng (j.val c t) then (bif j.ng (j.val b s) then some (.val (.int .i64 (-1))) else some (.val (.int .i64 1))) else (bif j.ng (j.val b s) then (bif aG (j.ms (j.val c t)) (j.mg (j.vs (j.ms (j.val c t))))&&aG (j.ms (j.val b s)) (j.mg (j.vs (j.ms (j.val b s)))) then some (.val (.int .i64 (j.cmp (j.vs (j.ms (j.val c t))) (j.vs (j.ms (j.val b s)))))) else none) else (bif aG (j.ms (j.val b s)) (j.mg (j.vs (j.ms (j.val b s))))&&aG (j.ms (j.val c t)) (j.mg (j.vs (j.ms (j.val c t)))) then some (.val (.int .i64 (j.cmp (j.vs (j.ms (j.val b s))) (j.vs (j.ms (j.val c t)))))) else none))):=by kernel_rfl
theorem ZS (j:Sg) (b c:Bool) (s t:ByteArray):letI I:Option AV:=(bif bif false then !j.ng (j.val b s)==j.ng (j.val c t) else j.ng (j.val b s)==j.ng (j.val c t) then (bif j.ok (j.ms (j.val b s))&&j.ok (j.ms (j.val c t)) then some (.agg [(.val (.bool (j.ng (j.val b s)))),(.val (.string (j.mg (j.vs (j.ms (j.val b s))+j.vs (j.ms (j.val c t))))))]) else none) else (bif aG (j.ms (j.val b s)) (j.mg (j.vs (j.ms (j.val b s))))&&aG (j.ms (j.val c t)) (j.mg (j.vs (j.ms (j.val c t)))) then (bif decide (j.cmp (j.vs (j.ms (j.val b s))) (j.vs (j.ms (j.val c t)))=(0:Int)) then some (.agg [(.val (.bool false)),(.val (.string (ByteArray.mk #[])))]) else (bif decide ((0:Int) < j.cmp (j.vs (j.ms (j.val b s))) (j.vs (j.ms (j.val c t)))) then (bif j.ok (j.ms (j.val b s))&&j.ok (j.ms (j.val c t))&&decide (j.vs (j.ms (j.val c t))≤j.vs (j.ms (j.val b s))) then some (.agg [(.val (.bool (j.ng (j.val b s)))),(.val (.string (j.mg (j.vs (j.ms (j.val b s)) - j.vs (j.ms (j.val c t))))))]) else none) else (bif j.ok (j.ms (j.val c t))&&j.ok (j.ms (j.val b s))&&decide (j.vs (j.ms (j.val b s))≤j.vs (j.ms (j.val c t))) then some (.agg [(.val (.bool (j.ng (j.val c t)))),(.val (.string (j.mg (j.vs (j.ms (j.val c t)) - j.vs (j.ms (j.val b s))))))]) else none))) else none));letI G:=(j.val (j.ng (j.val b s)) (j.ms (j.val b s))+j.val (j.ng (j.val c t)) (j.ms (j.val c t)));
  (aD Tryz.prog ⟨zM j,ar,aq⟩ 10 10 102 [.agg [.val (.bool b), .val (.string s)], .agg [.val (.bool c), .val (.string t)]]=(bif decide ((↑(j.ms (j.val b s)).size:Int) < (8:Int)) then (bif decide ((↑(j.ms (j.val c t)).size:Int) < (8:Int)) then (bif decide ((j.ms (j.val b s)).size≤(8:Nat))&&decide (j.vs (j.ms (j.val b s)) < (9223372036854775808:Nat)) then (bif decide ((j.ms (j.val c t)).size≤(8:Nat))&&decide (j.vs (j.ms (j.val c t)) < (9223372036854775808:Nat)) then (bif aj IntKind.i64 G then (bif cI G then some (.agg [(.val (.bool (j.ng G))),(.val (.string (j.ms G)))]) else none) else none) else none) else none) else I) else I)):=by kernel_rfl
theorem abf (j:Sg) (b c:Bool) (s t:ByteArray):aD Tryz.prog ⟨an 102 (kA j) (an 127 (kX j) aF),ar,aq⟩ 10 10 163 [.agg [.val (.bool b), .val (.string s)], .agg [.val (.bool c), .val (.string t)]]=
  (bif j.ok t then (bif j.ok s&&j.ok (j.ms (-j.val c t)) then some (.agg [(.val (.bool (j.ng (j.val b s+j.val (j.ng (-j.val c t)) (j.ms (-j.val c t)))))),(.val (.string (j.ms (j.val b s+j.val (j.ng (-j.val c t)) (j.ms (-j.val c t))))))]) else none) else none):=by kernel_rfl
theorem JH (z:Int):aG (aa.ms z) (aa.mg z.natAbs)=true:=pF _
theorem tJ {x y:Int} (h:x < 0↔y < 0):(aa.ng x==aa.ng y)=true:=by
 rw [cQ,cQ,decide_eq_decide.2 h,beq_self_eq_true]
theorem tK {x y:Int} (h:¬ (x < 0↔y < 0)):(aa.ng x==aa.ng y)=false:=by
 rw [cQ,cQ]
 by_cases j:x < 0 <;> by_cases G:y < 0
 ·exact absurd ⟨fun _=>G,fun _=>j⟩ h
 ·rw [dT j,dF G];rfl
 ·rw [dF j,dT G];rfl
 ·exact absurd ⟨fun k=>absurd k j,fun k=>absurd k G⟩ h
theorem int_eq {z:Int} {b:Bool} {n:Nat} (j:b=decide (z < 0)) (G:n=z.natAbs):AV.agg [.val (.bool b), .val (.string (aa.mg n))]=aa.int z:=by
 unfold Sg.int
 rw [cQ,j,G];rfl
theorem qK {x z:Int} (h:x < 0↔z < 0):aa.ng x=decide (z < 0):=by rw [cQ];exact decide_eq_decide.2 h
theorem wQ (a b:Nat):aa.cmp a b=0↔a=b:=by
 show b9 a b=0↔_
 unfold b9
 split <;> (try split) <;> omega
theorem wR (a b:Nat):0 < aa.cmp a b↔b < a:=by
 show 0 < b9 a b↔_
 unfold b9
 split <;> (try split) <;> omega
theorem Kd:Entry Tryz.prog 97 (nV aa):=by
 refine aX (E:= ⟨G5 aa,ar,aq⟩) (u:=10) (d:=10) (((aH _).add BZ).add sZ) aK mixed (by kernel_rfl) (fun args r h=> ?_)
 unfold nV at h
 split at h
 ·rename_i b s c t
  simp only [Option.some.injEq,Prod.mk.injEq] at h
  obtain ⟨J,rfl⟩:=h
  have G:=Z2 aa b c s t
  generalize aa.val b s=x at*
  generalize aa.val c t=y at*
  simp only [pQ,JH] at G
  rw [G]
  by_cases I:x < 0↔y < 0
  ·rw [tJ I]
   by_cases j:x < 0
   ·rw [cQ x,dT j]
    refine congrArg (fun z=>some (AV.val (.int .i64 z))) ?_
    show b9 y.natAbs x.natAbs=cE x y
    unfold b9 cE
    split <;> split <;> (try split) <;> (try split) <;> omega
   ·rw [cQ x,dF j]
    refine congrArg (fun z=>some (AV.val (.int .i64 z))) ?_
    show b9 x.natAbs y.natAbs=cE x y
    unfold b9 cE
    split <;> split <;> (try split) <;> (try split) <;> omega
  ·rw [tK I]
   by_cases j:x < 0
   ·rw [cQ x,dT j]
    refine congrArg (fun z=>some (AV.val (.int .i64 z))) ?_
    show -1=cE x y
    unfold cE
    split <;> (try split) <;> omega
   ·rw [cQ x,dF j]
    refine congrArg (fun z=>some (AV.val (.int .i64 z))) ?_
    show 1=cE x y
    unfold cE
    split <;> (try split) <;> omega
 ·cases h
theorem vp {n:Nat} (h:bs n < 8):n < 72057594037927936:=
 Nat.lt_of_lt_of_le (ni n) (show 256 ^ bs n≤256 ^ 7 from Nat.pow_le_pow_right (by decide) (by omega))
theorem PF:bb Tryz.prog (zM aa):=((((((aH _).add tf).add Kl).add Kk).add Kc).add BZ).add sZ
theorem BX:Entry Tryz.prog 102 (kA aa):=by
 refine aX (E:= ⟨zM aa,ar,aq⟩) (u:=10) (d:=10) PF aK mixed (by kernel_rfl) (fun args r h=> ?_)
 unfold kA at h
 split at h
 ·rename_i b s c t
  simp only [Option.some.injEq,Prod.mk.injEq,Bool.and_eq_true] at h
  obtain ⟨⟨Z,ab⟩,rfl⟩:=h
  have J:=ZS aa b c s t
  have N:=Nat.le_trans (dv b s) (kN Z)
  have O:=Nat.le_trans (dv c t) (kN ab)
  generalize aa.val b s=x at*
  generalize aa.val c t=y at*
  simp only [pQ,JH,pC,dp] at J
  rw [bA N,bA O] at J
  rw [J]
  clear J
  by_cases a1:(bs x.natAbs:Int) < 8∧(bs y.natAbs:Int) < 8
  ·obtain ⟨S,U⟩:=a1
   have k1:=vp (show bs x.natAbs < 8 by omega)
   have a2:=vp (show bs y.natAbs < 8 by omega)
   rw [dT S,dT U,dT (show bs x.natAbs≤8 by omega),dT (show bs y.natAbs≤8 by omega),dT (show x.natAbs < 9223372036854775808 by omega),dT (show y.natAbs < 9223372036854775808 by omega),aO (show -9223372036854775808≤x+y∧x+y≤9223372036854775807 by omega)]
   unfold cI
   rw [dT (show -9223372036854775808≤x+y by omega),dT (show x+y≤9223372036854775807 by omega)]
   rfl
  ·have h':¬ ((bs x.natAbs:Int) < 8)∨((bs x.natAbs:Int) < 8∧¬ (bs y.natAbs:Int) < 8):=by omega
   rcases h' with M | ⟨M,a0⟩
   ·rw [dF M]
    by_cases I:x < 0↔y < 0
    ·rw [tJ I]
     exact congrArg some (int_eq (qK (by omega)) (by omega))
    ·rw [tK I]
     by_cases j:x.natAbs=y.natAbs
     ·rw [dT ((wQ _ _).2 j),show x+y=0 by omega]
      unfold Sg.int
      rw [lB]
      rfl
     ·rw [dF (fun h=>j ((wQ _ _).1 h))]
      by_cases G:y.natAbs < x.natAbs
      ·rw [dT ((wR _ _).2 G),dT (show y.natAbs≤x.natAbs by omega)]
       exact congrArg some (int_eq (qK (by omega)) (by omega))
      ·rw [dF (fun h=>G ((wR _ _).1 h)),dT (show x.natAbs≤y.natAbs by omega)]
       exact congrArg some (int_eq (qK (by omega)) (by omega))
   ·rw [dT M,dF a0]
    by_cases I:x < 0↔y < 0
    ·rw [tJ I]
     exact congrArg some (int_eq (qK (by omega)) (by omega))
    ·rw [tK I]
     by_cases j:x.natAbs=y.natAbs
     ·rw [dT ((wQ _ _).2 j),show x+y=0 by omega]
      unfold Sg.int
      rw [lB]
      rfl
     ·rw [dF (fun h=>j ((wQ _ _).1 h))]
      by_cases G:y.natAbs < x.natAbs
      ·rw [dT ((wR _ _).2 G),dT (show y.natAbs≤x.natAbs by omega)]
       exact congrArg some (int_eq (qK (by omega)) (by omega))
      ·rw [dF (fun h=>G ((wR _ _).1 h)),dT (show x.natAbs≤y.natAbs by omega)]
       exact congrArg some (int_eq (qK (by omega)) (by omega))
 ·cases h
theorem VX:Entry Tryz.prog 163 (rK aa):=by
 refine aX (E:= ⟨an 102 (kA aa) (an 127 (kX aa) aF),ar,aq⟩) (u:=10) (d:=10) (((aH _).add B2).add BX) aK mixed (by kernel_rfl) (fun args r h=> ?_)
 unfold rK at h
 split at h
 ·rename_i b s c t
  simp only [Option.some.injEq,Prod.mk.injEq,Bool.and_eq_true] at h
  obtain ⟨⟨J,G⟩,rfl⟩:=h
  have j:=abf aa b c s t
  have I:=Nat.le_trans (dv c t) (kN G)
  simp only [dp] at j
  rw [J,G,bA (z:= -aa.val c t) (by rw [Int.natAbs_neg];exact I)] at j
  rw [j,Int.sub_eq_add_neg]
  rfl
 ·cases h
end
end Go.Proofs.YtamcpiicmfielaaGreat.L
namespace Go.Proofs.YtamcpiicmfielaaGreat.L
open Go Go.V Go.RowKit Go.Proofs.YtamcpiicmfielaaGreat.Sp Go.Proofs.YtamcpiicmfielaaGreat.F Go.Proofs.YtamcpiicmfielaaGreatW.PrintWords
open Go.Proofs (Tryz.prog)
noncomputable section
abbrev fX:List Bool:= [false,true,false,true,false,false,true,false,false,true,false,true,true]
def iU (s:ByteArray) (t:ByteArray) (zs:List Int) (i:Int) (c:Int) (j:Int):List AV:=av 87 [(0, .val (.string s)),(1, .val (.string t)),(5, .sl false 3 0 0 zs.length),(6, .val (.int .i64 i)),(7, .val (.int .i64 c)),(8, .val (.int .i64 j))]
def iy (s:ByteArray) (t:ByteArray) (zs:List Int) (i:Int) (c:Int) (j:Int):Hp:= [.row (.ints .i64 zs) 3 .live]
theorem RA:aJ Tryz.prog 132 fX=some (.loop (lb 132 fX)):=by kernel_rfl
theorem S9:aJ Tryz.prog 132 (false :: fX)=some (lb 132 fX):=by kernel_rfl
theorem Nh (s:ByteArray) (t:ByteArray) (zs:List Int) (i:Int) (c:Int) (j:Int):letI G:=(zs.getD ((0:Nat)+(i+j+(1:Int)).toNat*(1:Nat)) (0:Int)+aR s i.toNat*aR t j.toNat);
  (aN Tryz.prog bj 132 [0,1,5,6,7,8] (lb 132 fX) (false :: fX) (iU s t zs i c j) (iy s t zs i c j)=(bif decide ((0:Int)≤j) then (bif aj IntKind.i64 (i+j) then (bif aj IntKind.i64 (i+j+(1:Int)) then (bif decide ((0:Int)≤i+j+(1:Int))&&decide (i+j+(1:Int) < (↑zs.length:Int)) then (bif decide ((0:Nat)+(i+j+(1:Int)).toNat*(1:Nat) < zs.length) then (bif decide ((0:Int)≤i)&&decide (i < (↑s.size:Int)) then (bif aj IntKind.i64 (aR s i.toNat) then (bif decide ((0:Int)≤j)&&decide (j < (↑t.size:Int)) then (bif aj IntKind.i64 (aR t j.toNat) then (bif aj IntKind.i64 (aR s i.toNat*aR t j.toNat) then (bif aj IntKind.i64 G then (bif aj IntKind.i64 (c+G) then (bif aj IntKind.i64 (i+j) then (bif aj IntKind.i64 (i+j+(1:Int)) then (bif decide ((0:Int)≤i+j+(1:Int))&&decide (i+j+(1:Int) < (↑zs.length:Int)) then (bif decide ((0:Nat)+(i+j+(1:Int)).toNat*(1:Nat) < zs.length) then (bif aj IntKind.i64 (j - (1:Int)) then some (.normal,av 87 [(0,(.val (.string s))),(1,(.val (.string t))),(5,(.sl false 3 0 0 zs.length)),(6,(.val (.int .i64 i))),(7,(.val (.int .i64 ((c+G).fdiv (256:Int))))),(8,(.val (.int .i64 (j - (1:Int)))))], [(.row (.ints .i64 (zs.set ((0:Nat)+(i+j+(1:Int)).toNat*(1:Nat)) (bV BinOp.and IntKind.i64 (c+G) (255:Int)))) 3 .live)]) else none) else none) else none) else none) else none) else none) else none) else none) else none) else none) else none) else none) else none) else none) else none) else none) else some ((.exit 2),av 87 [(0,(.val (.string s))),(1,(.val (.string t))),(5,(.sl false 3 0 0 zs.length)),(6,(.val (.int .i64 i))),(7,(.val (.int .i64 c))),(8,(.val (.int .i64 j)))], [(.row (.ints .i64 zs) 3 .live)]))):=by kernel_rfl
theorem Om {s:ByteArray} {t:ByteArray} {zs:List Int} {i:Int} {c:Int} {j:Int} {e:Ex} {T:List AV} {H:Hp} (h:aN Tryz.prog bj 132 [0,1,5,6,7,8] (lb 132 fX) (false :: fX) (iU s t zs i c j) (iy s t zs i c j)=some (e,T,H)):V.Ends Tryz.prog false 0 0 (lb 132 fX) (iU s t zs i c j) (iy s t zs i c j) e T H:=
 bw (aH _) aK mixed S9 h
def jL (zs:List Int):Prop:=∀ z ∈ zs,0≤z∧z < 256
theorem LN {zs:List Int} (h:jL zs) (p x:Nat) (I:x < 256):jL (zs.set p (x:Int)):=by
 intro z G
 rcases List.mem_or_eq_of_mem_set G with j | j
 ·exact h z j
 ·subst j;omega
theorem KJ {l:List Int} (h:jL l) (i:Nat) (j:i < l.length):∃ a:Nat,a < 256∧l[i]? =some (a:Int)∧l.getD i 0=(a:Int):=by
 have I:=h l[i] (List.getElem_mem j)
 obtain ⟨a,G⟩:=Int.eq_ofNat_of_zero_le I.1
 refine ⟨a,by omega, ?_, ?_⟩
 ·rw [List.getElem?_eq_getElem j,G]
 ·rw [List.getD_eq_getElem?_getD,List.getElem?_eq_getElem j,G];rfl
theorem rR (a:Int) (l:List Int):vY (a :: l)=(UInt8.ofNat a.toNat).toNat*256 ^ l.length+vY l:=by
 unfold vY
 rw [List.map_cons,la,List.length_map]
theorem Pb {a:Nat} (h:a < 256):(UInt8.ofNat ((a:Int)).toNat).toNat=a:=by
 rw [Int.toNat_natCast,UInt8.toNat_ofNat'];omega
theorem Ph (z x:Nat) (G:z < 256) (j:x < 256):∀ (l:List Int) (q:Nat),l[q]? =some (z:Int)→vY (l.set q (x:Int))+z*256 ^ (l.length - q - 1)=vY l+x*256 ^ (l.length - q - 1)
 | [],q,h=>by simp at h
 | a :: l,0,h=>by
  have I:a=(z:Int):=by simpa using h
  subst I
  rw [List.set_cons_zero,rR,rR,Pb G,Pb j]
  simp only [List.length_cons,Nat.sub_zero,Nat.add_sub_cancel]
  omega
 | a :: l,q+1,h=>by
  have J:=Ph z x G j l q (by simpa using h)
  rw [List.set_cons_succ,rR,rR,List.length_set]
  have e:(a :: l).length - (q+1) - 1=l.length - q - 1:=by simp only [List.length_cons];omega
  rw [e]
  omega
theorem Pj (z x:Nat) (G:z < 256) (j:x < 256) (l:List Int) (p k:Nat) (I:k≤p) (h:l[p]? =some (z:Int)):vY ((l.set p (x:Int)).drop k)+z*256 ^ (l.length - p - 1)=vY (l.drop k)+x*256 ^ (l.length - p - 1):=by
 have e:(l.set p (x:Int)).drop k=(l.drop k).set (p - k) (x:Int):=by
  rw [List.drop_set,if_neg (by omega)]
 have:=Ph z x G j (l.drop k) (p - k) (by rw [List.getElem?_drop,show k+(p - k)=p by omega];exact h)
 rw [List.length_drop,show l.length - k - (p - k) - 1=l.length - p - 1 by omega] at this
 rw [e];exact this
theorem QR (v:Nat) (h:v < 65536):bV .and .i64 (v:Int) 255=((v % 256:Nat):Int):=by
 have e:Go.bits .and .i64 (v:Int) (2 ^ 8 - 1)=(v:Int) % 2 ^ 8:=bits_mask .i64 63 (by decide) (fun n G I=>by rw [IntKind.wrap_i64];omega) 8 (by decide) (v:Int) (by omega) (by omega)
 have j:bV .and .i64 (v:Int) 255=(v:Int) % 256:=e
 rw [j];omega
theorem aax {A j P v z c x y Y:Nat} (M:j+z*P=A+v % 256*P) (G:v=c+(z+x*y)):j+v / 256*(256*P)+x*Y*(256*P)=A+c*P+x*(Y*256+y)*P:=by
 have e:v % 256*P+v / 256*(256*P)=v*P:=by
  rw [← Nat.mul_assoc,← Nat.add_mul,Nat.mul_comm (v / 256),Nat.mod_add_div]
 have I:v*P=c*P+z*P+x*y*P:=by rw [G,Nat.add_mul,Nat.add_mul,Nat.add_assoc]
 have J:x*(Y*256+y)*P=x*Y*(256*P)+x*y*P:=by grind
 omega
theorem aaw (s t:ByteArray) (ch:s.size≤8796093022208) (ct:t.size≤8796093022208) (i:Nat) (b8:i < s.size) (x:Nat) (c0:x < 256) (b3:aR s i=(x:Int)) (d:Nat):∀ (c:Nat) (zs:List Int),d≤t.size→zs.length=s.size+t.size→jL zs→c < 256→
  ∃ r:List Int×Int×Int,aw Tryz.prog (lb 132 fX) (iU s t zs i c ((d:Int) - 1)) (iy s t zs i c ((d:Int) - 1)) (.exit 2) (iU s t r.1 i r.2.1 r.2.2) (iy s t r.1 i r.2.1 r.2.2)∧r.1.length=s.size+t.size∧jL r.1∧(∀ k:Nat,k≤i→r.1[k]? =zs[k]?)∧
   ∃ j:Nat,r.2.1=(j:Int)∧j < 256∧vY (r.1.drop (i+1))+j*256 ^ (s.size+t.size - (i+1))=vY (zs.drop (i+1))+c*256 ^ (s.size+t.size - (i+d+1))+x*vB (t.data.toList.take d)*256 ^ (s.size+t.size - (i+d+1)):=by
 induction d with
 | zero=>
  intro c zs a7 G I N
  refine ⟨(zs,(c:Int),((0:Nat):Int) - 1), .last (Om ?_) (by intro h;cases h),G,I,fun _ _=>rfl,c,rfl,N, ?_⟩
  ·rw [Nh,dF (show ¬ (0:Int)≤((0:Nat):Int) - 1 by decide)];rfl
  ·rw [List.take_zero]
   show _=_+_+x*0*_
   rw [Nat.mul_zero,Nat.zero_mul];rfl
 | succ d b7=>
  intro c zs a7 G I N
  obtain ⟨z,b4,b5,b6⟩:=KJ I (i+d+1) (by omega)
  have a6:=lj t d
  obtain ⟨y,M⟩:∃ y:Nat,aR t d=y:= ⟨(aR t d).toNat,by omega⟩
  rw [M] at a6
  have c1:x*y≤255*255:=Nat.mul_le_mul (by omega) (by omega)
  have b2:c+(z+x*y) < 65536:=by omega
  obtain ⟨r,ab,a0,a1,a2,j,a3,a4,a5⟩:=b7 ((c+(z+x*y)) / 256) (zs.set (i+d+1) (((c+(z+x*y)) % 256:Nat):Int)) (by omega) (by rw [List.length_set];exact G) (LN I _ _ (Nat.mod_lt _ (by decide))) (by omega)
  refine ⟨r, .more (Om ?_) ab,a0,a1, ?_,j,a3,a4, ?_⟩
  ·have J:=Nh s t zs i c (d:Int)
   have S:((i:Int)+(d:Int)+1)=((i+d+1:Nat):Int):=by omega
   rw [S,Int.toNat_natCast,Int.toNat_natCast,Int.toNat_natCast,Nat.zero_add,Nat.mul_one,b6,b3,M] at J
   have U:((c:Int)+((z:Int)+(x:Int)*(y:Int)))=((c+(z+x*y):Nat):Int):=by rw [Int.natCast_add,Int.natCast_add,Int.natCast_mul]
   have Z:(x:Int)*(y:Int)=((x*y:Nat):Int):=(Int.natCast_mul x y).symm
   rw [U,QR _ b2,tr,Z,← Int.natCast_add z (x*y),bz (x*y) (by omega),bz (z+x*y) (by omega),bz (c+(z+x*y)) (by omega),bz x (by omega),bz y (by omega),← Int.natCast_add i d,bz (i+d) (by omega),bz (i+d+1) (by omega),dT (show (0:Int)≤(d:Int) by omega),dT (show (0:Int)≤((i+d+1:Nat):Int) by omega),dT (show ((i+d+1:Nat):Int) < (zs.length:Int) by omega),dT (show i+d+1 < zs.length by omega),dT (show (0:Int)≤(i:Int) by omega),dT (show (i:Int) < (s.size:Int) by omega),dT (show (d:Int) < (t.size:Int) by omega),aO (show -9223372036854775808≤(d:Int) - 1∧(d:Int) - 1≤9223372036854775807 by omega)] at J
   rw [show ((d+1:Nat):Int) - 1=(d:Int) by omega,J]
   unfold iU iy
   rw [List.length_set]
   rfl
  ·intro k bx
   rw [a2 k bx,List.getElem?_set_ne (by omega)]
  ·have O:=Pj z ((c+(z+x*y)) % 256) b4 (Nat.mod_lt _ (by decide)) zs (i+d+1) (i+1) (by omega) b5
   have b0:=pO t d (by omega)
   rw [M] at b0
   have b1:vB (t.data.toList.take (d+1))=vB (t.data.toList.take d)*256+y:=by omega
   have bD:256 ^ (s.size+t.size - (i+d+1))=256*256 ^ (s.size+t.size - (i+(d+1)+1)):=by
    rw [show s.size+t.size - (i+d+1)=(s.size+t.size - (i+(d+1)+1))+1 by omega,Nat.pow_succ,Nat.mul_comm]
   rw [a5,bD,b1]
   rw [G,show s.size+t.size - (i+d+1) - 1=s.size+t.size - (i+(d+1)+1) by omega] at O
   exact aax O rfl
def uC (s t:ByteArray) (zs:List Int) (i c j:Int):Prop:=s.size≤8796093022208∧t.size≤8796093022208∧(∃ k:Nat,i=(k:Int)∧k < s.size)∧zs.length=s.size+t.size∧jL zs∧c=0∧j=(t.size:Int) - 1
def yt (s t:ByteArray) (zs:List Int) (i c G:Int) (r:List Int×Int×Int):Prop:=r.1.length=s.size+t.size∧jL r.1∧(∀ k:Nat,k≤i.toNat→r.1[k]? =zs[k]?)∧
 ∃ j:Nat,r.2.1=(j:Int)∧j < 256∧vY (r.1.drop (i.toNat+1))+j*256 ^ (s.size+t.size - (i.toNat+1))=vY (zs.drop (i.toNat+1))+(aR s i.toNat).toNat*vS t*256 ^ (s.size+t.size - (i.toNat+t.size+1))
theorem X6 (s t:ByteArray) (zs:List Int) (i c j:Int) (h:uC s t zs i c j):∃ r:List Int×Int×Int,aw Tryz.prog (lb 132 fX) (iU s t zs i c j) (iy s t zs i c j) (.exit 2) (iU s t r.1 i r.2.1 r.2.2) (iy s t r.1 i r.2.1 r.2.2)∧yt s t zs i c j r:=by
 obtain ⟨M,N, ⟨k,rfl,O⟩,S,U,rfl,rfl⟩:=h
 have a3:=lj s k
 obtain ⟨x,G⟩:∃ x:Nat,aR s k=x:= ⟨(aR s k).toNat,by omega⟩
 obtain ⟨r,k1,Z,ab,a0,J,a1,a2,I⟩:=aaw s t M N k O x (by omega) G t.size 0 zs (Nat.le_refl _) S U (by omega)
 have e:t.data.toList.take t.size=t.data.toList:=List.take_of_length_le (by rw [Array.length_toList];exact Nat.le_refl _)
 rw [e,Nat.zero_mul,Nat.add_zero] at I
 unfold yt
 rw [Int.toNat_natCast,G,Int.toNat_natCast]
 exact ⟨r,k1,Z,ab,a0,J,a1,a2,I⟩
def Gm (J:ByteArray→ByteArray→List Int→Int→Int→Int→Bool) (G:ByteArray→ByteArray→List Int→Int→Int→Int→List Int×Int×Int) (T:List AV) (H:Hp):Option (Bool×Ex×List AV×Hp):=
 match al T 0,al T 1,al T 5,al T 6,al T 7,al T 8,H with
 | .val (.string s), .val (.string t), .sl false 3 0 0 I, .val (.int .i64 i), .val (.int .i64 c), .val (.int .i64 j), [.row (.ints .i64 zs) 3 .live]=>bif T.length==87 then some (decide (I=zs.length)&&J s t zs i c j, .exit 2,iU s t ((G s t zs i c j).1) i ((G s t zs i c j).2.1) ((G s t zs i c j).2.2),iy s t ((G s t zs i c j).1) i ((G s t zs i c j).2.1) ((G s t zs i c j).2.2)) else none
 | _,_,_,_,_,_,_=>none
abbrev AB:Type:=ByteArray→ByteArray→List Int→Int→Int→Int→Bool
abbrev Aj:Type:=ByteArray→ByteArray→List Int→Int→Int→Int→List Int×Int×Int
def I1 (j:AB) (G:Aj) (L:aE):aE:=bp 0 132 fX [0,1,5,6,7,8] (Gm j G) L
def jS (s:ByteArray) (t:ByteArray) (zs:List Int) (i:Int) (c:Int) (j:Int):List Int×Int×Int:=Classical.epsilon fun ρ=>aw Tryz.prog (lb 132 fX) (iU s t zs i c j) (iy s t zs i c j) (.exit 2) (iU s t (ρ.1) i (ρ.2.1) (ρ.2.2)) (iy s t (ρ.1) i (ρ.2.1) (ρ.2.2))∧yt s t zs i c j ρ
theorem My (s:ByteArray) (t:ByteArray) (zs:List Int) (i:Int) (c:Int) (j:Int) (h:uC s t zs i c j):aw Tryz.prog (lb 132 fX) (iU s t zs i c j) (iy s t zs i c j) (.exit 2) (iU s t ((jS s t zs i c j).1) i ((jS s t zs i c j).2.1) ((jS s t zs i c j).2.2)) (iy s t ((jS s t zs i c j).1) i ((jS s t zs i c j).2.1) ((jS s t zs i c j).2.2))∧yt s t zs i c j (jS s t zs i c j):=Classical.epsilon_spec (X6 s t zs i c j h)
def sM (s:ByteArray) (t:ByteArray) (zs:List Int) (i:Int) (c:Int) (j:Int):Bool:= @decide (uC s t zs i c j) (Classical.propDecidable _)
theorem T9 (s:ByteArray) (t:ByteArray) (zs:List Int) (i:Int) (c:Int) (j:Int) (h:uC s t zs i c j):sM s t zs i c j=true:= @decide_eq_true _ (Classical.propDecidable _) h
theorem adB (T:List AV) (H:Hp) (e:Ex) (I:List AV) (G:Hp) (h:Gm sM jS T H=some (true,e,I,G)):V.Ends Tryz.prog false 0 0 (.loop (lb 132 fX)) T H e I G:=by
 unfold Gm at h
 split at h
 ·rename_i s t a4 i c a1 zs N O S U Z ab
  rw [Bool.cond_eq_ite] at h
  split at h
  ·rename_i J
   rw [beq_iff_eq] at J
   simp only [Option.some.injEq,Prod.mk.injEq,Bool.and_eq_true,decide_eq_true_eq] at h
   obtain ⟨⟨k1,a2⟩,rfl,rfl,rfl⟩:=h
   have a3:= @of_decide_eq_true _ (Classical.propDecidable _) a2
   refine Ends.pre (My s t zs i c a1 a3).1.ends (fun α B w D a5 a0=>bm J (fun p M y j=> ?_) a0)
   simp only [List.mem_cons,List.not_mem_nil,or_false] at M
   rcases M with rfl | rfl | rfl | rfl | rfl | rfl
   ·rw [N] at j;exact j
   ·rw [O] at j;exact j
   ·rw [S] at j;rw [← k1];exact j
   ·rw [U] at j;exact j
   ·rw [Z] at j;exact j
   ·rw [ab] at j;exact j
  ·cases h
 ·cases h
theorem Qr {L:aE} (h:aB Tryz.prog L):aB Tryz.prog (I1 sM jS L):=h.br RA adB
def Hn (j:AB) (G:Aj):Env:= ⟨aF,ar,I1 j G aq⟩
abbrev fY:List Bool:= [false,true,false,true,true]
def iV (s:ByteArray) (t:ByteArray) (zs:List Int) (i:Int):List AV:=av 87 [(0, .val (.string s)),(1, .val (.string t)),(5, .sl false 3 0 0 zs.length),(6, .val (.int .i64 i))]
def iz (s:ByteArray) (t:ByteArray) (zs:List Int) (i:Int):Hp:= [.row (.ints .i64 zs) 3 .live]
theorem RB:aJ Tryz.prog 132 fY=some (.loop (lb 132 fY)):=by kernel_rfl
theorem Ta:aJ Tryz.prog 132 (false :: fY)=some (lb 132 fY):=by kernel_rfl
theorem Ni (G:AB) (I:Aj) (s:ByteArray) (t:ByteArray) (zs:List Int) (i:Int):letI j:=(I s t zs i (0:Int) ((↑t.size:Int) - (1:Int)));
  (aN Tryz.prog (Hn G I) 132 [0,1,5,6] (lb 132 fY) (false :: fY) (iV s t zs i) (iz s t zs i)=(bif decide ((0:Int)≤i) then (bif aj IntKind.i64 ((↑t.size:Int) - (1:Int)) then (bif decide (zs.length=zs.length)&&G s t zs i (0:Int) ((↑t.size:Int) - (1:Int)) then (bif decide ((0:Int)≤i)&&decide (i < (↑j.fst.length:Int)) then (bif decide ((0:Nat)+i.toNat*(1:Nat) < j.fst.length) then (bif aj IntKind.i64 (j.fst.getD ((0:Nat)+i.toNat*(1:Nat)) (0:Int)+j.snd.fst) then (bif decide ((0:Int)≤i)&&decide (i < (↑j.fst.length:Int)) then (bif decide ((0:Nat)+i.toNat*(1:Nat) < j.fst.length) then (bif aj IntKind.i64 (i - (1:Int)) then some (.normal,av 87 [(0,(.val (.string s))),(1,(.val (.string t))),(5,(.sl false 3 0 0 (j.fst.length))),(6,(.val (.int .i64 (i - (1:Int)))))], [(.row (.ints .i64 (j.fst.set ((0:Nat)+i.toNat*(1:Nat)) (j.fst.getD ((0:Nat)+i.toNat*(1:Nat)) (0:Int)+j.snd.fst))) 3 .live)]) else none) else none) else none) else none) else none) else none) else none) else none) else some ((.exit 0),av 87 [(0,(.val (.string s))),(1,(.val (.string t))),(5,(.sl false 3 0 0 zs.length)),(6,(.val (.int .i64 i)))], [(.row (.ints .i64 zs) 3 .live)]))):=by kernel_rfl
theorem On {s:ByteArray} {t:ByteArray} {zs:List Int} {i:Int} {e:Ex} {T:List AV} {H:Hp} (h:aN Tryz.prog (Hn sM jS) 132 [0,1,5,6] (lb 132 fY) (false :: fY) (iV s t zs i) (iz s t zs i)=some (e,T,H)):V.Ends Tryz.prog false 0 0 (lb 132 fY) (iV s t zs i) (iz s t zs i) e T H:=
 bw (aH _) (Qr aB.none).ok mixed Ta h
theorem aaz {V A j X P x T c Q:Nat} (G:j+c*Q=A+x*T*P):j+c*Q+X*T*(256*P)=A+(X*256+x)*T*P:=by
 have e:(X*256+x)*T*P=X*T*(256*P)+x*T*P:=by grind
 omega
theorem aay (s t:ByteArray) (bx:s.size≤8796093022208) (b1:t.size≤8796093022208) (d:Nat):∀ zs:List Int,d≤s.size→zs.length=s.size+t.size→jL zs→(∀ k:Nat,k < d→zs[k]? =some 0)→
  ∃ r:List Int×Int,aw Tryz.prog (lb 132 fY) (iV s t zs ((d:Int) - 1)) (iz s t zs ((d:Int) - 1)) (.exit 0) (iV s t r.1 r.2) (iz s t r.1 r.2)∧r.1.length=s.size+t.size∧jL r.1∧vY r.1=vY (zs.drop d)+vB (s.data.toList.take d)*vS t*256 ^ (s.size - d):=by
 induction d with
 | zero=>
  intro zs a4 M N J
  refine ⟨(zs,((0:Nat):Int) - 1), .last (On ?_) (by intro h;cases h),M,N, ?_⟩
  ·rw [Ni,dF (show ¬ (0:Int)≤((0:Nat):Int) - 1 by decide)];rfl
  ·rw [List.take_zero]
   show _=_+0*_*_
   rw [Nat.zero_mul,Nat.zero_mul];rfl
 | succ d b4=>
  intro zs a4 M N J
  have ab:uC s t zs (d:Int) 0 ((t.size:Int) - 1):= ⟨bx,b1, ⟨d,rfl,by omega⟩,M,N,rfl,rfl⟩
  obtain ⟨_,p1,p2,p3,G,p4,p5,I⟩:=My _ _ _ _ _ _ ab
  have S:=Ni sM jS s t zs (d:Int)
  rw [T9 _ _ _ _ _ _ ab] at S
  generalize jS s t zs (d:Int) 0 ((t.size:Int) - 1)=q at*
  obtain ⟨j,b5⟩:=q
  rw [Int.toNat_natCast] at p3 I
  have U:j[d]? =some ((0:Nat):Int):=by rw [p3 d (Nat.le_refl _),J d (by omega)];rfl
  have b3:j.getD d 0=0:=by rw [List.getD_eq_getElem?_getD,U];rfl
  have p1:j.length=s.size+t.size:=p1
  obtain ⟨r,a0,a1,a2,a3⟩:=b4 (j.set d (G:Int)) (by omega) (by rw [List.length_set];exact p1) (LN p2 _ _ p5) (fun k b7=>by
   rw [List.getElem?_set_ne (by omega),p3 k (by omega),J k (by omega)])
  refine ⟨r, .more (On ?_) a0,a1,a2, ?_⟩
  ·have p4:b5.1=(G:Int):=p4
   rw [p4,Int.toNat_natCast,Nat.zero_add,Nat.mul_one,b3,Int.zero_add,dT (show (0:Int)≤(d:Int) by omega),aO (show -9223372036854775808≤(t.size:Int) - 1∧(t.size:Int) - 1≤9223372036854775807 by omega),dT (show zs.length=zs.length from rfl),dT (show (d:Int) < (j.length:Int) by omega),dT (show d < j.length by omega),bz G (by omega),aO (show -9223372036854775808≤(d:Int) - 1∧(d:Int) - 1≤9223372036854775807 by omega)] at S
   rw [show ((d+1:Nat):Int) - 1=(d:Int) by omega,S]
   unfold iV iz
   rw [List.length_set]
   rfl
  ·have O:=Pj 0 G (by omega) p5 j d d (Nat.le_refl _) U
   rw [Nat.zero_mul,Nat.add_zero] at O
   have Z:d < j.length:=by omega
   have a6:j[d]=0:=by
    have:=List.getElem?_eq_getElem Z
    rw [U] at this
    exact (Option.some.inj this).symm
   have a5:vY (j.drop d)=vY (j.drop (d+1)):=by
    rw [List.drop_eq_getElem_cons Z,rR,a6]
    show 0*_+_=_
    rw [Nat.zero_mul,Nat.zero_add]
   rw [a5,p1] at O
   have b6:=lj s d
   obtain ⟨x,b2⟩:∃ x:Nat,aR s d=x:= ⟨(aR s d).toNat,by omega⟩
   have bD:=pO s d (by omega)
   rw [b2] at bD I
   have b0:vB (s.data.toList.take (d+1))=vB (s.data.toList.take d)*256+x:=by omega
   have a7:256 ^ (s.size - d)=256*256 ^ (s.size - (d+1)):=by
    rw [show s.size - d=(s.size - (d+1))+1 by omega,Nat.pow_succ,Nat.mul_comm]
   rw [Int.toNat_natCast,show s.size+t.size - (d+t.size+1)=s.size - (d+1) by omega] at I
   rw [a3,O,a7,b0,show s.size+t.size - d - 1=s.size+t.size - (d+1) by omega]
   exact aaz (V:=0) I
def uD (s t:ByteArray) (zs:List Int) (i:Int):Prop:=s.size≤8796093022208∧t.size≤8796093022208∧zs=List.replicate (s.size+t.size) 0∧i=(s.size:Int) - 1
def Dz (s t:ByteArray) (zs:List Int) (i:Int) (r:List Int×Int):Prop:=r.1.length=s.size+t.size∧jL r.1∧vY r.1=vS s*vS t
theorem X7 (s t:ByteArray) (zs:List Int) (i:Int) (h:uD s t zs i):∃ r:List Int×Int,aw Tryz.prog (lb 132 fY) (iV s t zs i) (iz s t zs i) (.exit 0) (iV s t r.1 r.2) (iz s t r.1 r.2)∧Dz s t zs i r:=by
 obtain ⟨I,J,rfl,rfl⟩:=h
 obtain ⟨r,k1,O,S,j⟩:=aay s t I J s.size (List.replicate (s.size+t.size) 0) (Nat.le_refl _) (by rw [List.length_replicate]) (fun z M=>by rw [(List.mem_replicate.1 M).2];omega) (fun k U=>by rw [List.getElem?_replicate,if_pos (by omega)])
 refine ⟨r,k1,O,S, ?_⟩
 have e:s.data.toList.take s.size=s.data.toList:=List.take_of_length_le (by rw [Array.length_toList];exact Nat.le_refl _)
 have G:∀ n:Nat,vY (List.replicate n (0:Int))=0:=by
  intro n
  induction n with
  | zero=>rfl
  | succ n N=>rw [List.replicate_succ,rR,N];show 0*_+0=0;omega
 rw [e,List.drop_replicate,G,Nat.sub_self,Nat.pow_zero,Nat.mul_one,Nat.zero_add] at j
 exact j
def Gn (I:ByteArray→ByteArray→List Int→Int→Bool) (j:ByteArray→ByteArray→List Int→Int→List Int×Int) (T:List AV) (H:Hp):Option (Bool×Ex×List AV×Hp):=
 match al T 0,al T 1,al T 5,al T 6,H with
 | .val (.string s), .val (.string t), .sl false 3 0 0 G, .val (.int .i64 i), [.row (.ints .i64 zs) 3 .live]=>bif T.length==87 then some (decide (G=zs.length)&&I s t zs i, .exit 0,iV s t ((j s t zs i).1) ((j s t zs i).2),iz s t ((j s t zs i).1) ((j s t zs i).2)) else none
 | _,_,_,_,_=>none
abbrev AD:Type:=ByteArray→ByteArray→List Int→Int→Bool
abbrev Ak:Type:=ByteArray→ByteArray→List Int→Int→List Int×Int
def I2 (j:AD) (G:Ak) (L:aE):aE:=bp 0 132 fY [0,1,5,6] (Gn j G) L
def cZ (s:ByteArray) (t:ByteArray) (zs:List Int) (i:Int):List Int×Int:=Classical.epsilon fun ρ=>aw Tryz.prog (lb 132 fY) (iV s t zs i) (iz s t zs i) (.exit 0) (iV s t (ρ.1) (ρ.2)) (iz s t (ρ.1) (ρ.2))∧Dz s t zs i ρ
theorem Mz (s:ByteArray) (t:ByteArray) (zs:List Int) (i:Int) (h:uD s t zs i):aw Tryz.prog (lb 132 fY) (iV s t zs i) (iz s t zs i) (.exit 0) (iV s t ((cZ s t zs i).1) ((cZ s t zs i).2)) (iz s t ((cZ s t zs i).1) ((cZ s t zs i).2))∧Dz s t zs i (cZ s t zs i):=Classical.epsilon_spec (X7 s t zs i h)
def sN (s:ByteArray) (t:ByteArray) (zs:List Int) (i:Int):Bool:= @decide (uD s t zs i) (Classical.propDecidable _)
theorem Ua (s:ByteArray) (t:ByteArray) (zs:List Int) (i:Int) (h:uD s t zs i):sN s t zs i=true:= @decide_eq_true _ (Classical.propDecidable _) h
theorem adC (T:List AV) (H:Hp) (e:Ex) (I:List AV) (G:Hp) (h:Gn sN cZ T H=some (true,e,I,G)):V.Ends Tryz.prog false 0 0 (.loop (lb 132 fY)) T H e I G:=by
 unfold Gn at h
 split at h
 ·rename_i s t a1 i zs N O S U
  rw [Bool.cond_eq_ite] at h
  split at h
  ·rename_i J
   rw [beq_iff_eq] at J
   simp only [Option.some.injEq,Prod.mk.injEq,Bool.and_eq_true,decide_eq_true_eq] at h
   obtain ⟨⟨k1,ab⟩,rfl,rfl,rfl⟩:=h
   have a0:= @of_decide_eq_true _ (Classical.propDecidable _) ab
   refine Ends.pre (Mz s t zs i a0).1.ends (fun α B w D a2 Z=>bm J (fun p M y j=> ?_) Z)
   simp only [List.mem_cons,List.not_mem_nil,or_false] at M
   rcases M with rfl | rfl | rfl | rfl
   ·rw [N] at j;exact j
   ·rw [O] at j;exact j
   ·rw [S] at j;rw [← k1];exact j
   ·rw [U] at j;exact j
  ·cases h
 ·cases h
theorem Qs {L:aE} (h:aB Tryz.prog L):aB Tryz.prog (I2 sN cZ L):=h.br RB adC
abbrev fW:List Bool:= [false,true,false,true,true,true,true]
def iT (zs:List Int) (j:List Int) (i:Int):List AV:=av 87 [(5, .sl false 3 0 0 zs.length),(9, .sl false 5 1 0 j.length),(10, .val (.int .i64 i))]
def iw (zs:List Int) (j:List Int) (i:Int):Hp:= [.row (.ints .i64 zs) 3 .live, .row (.ints .u8 j) 5 .live]
theorem Rz:aJ Tryz.prog 132 fW=some (.loop (lb 132 fW)):=by kernel_rfl
theorem S8:aJ Tryz.prog 132 (false :: fW)=some (lb 132 fW):=by kernel_rfl
theorem Ng (zs:List Int) (j:List Int) (i:Int):aN Tryz.prog bj 132 [5,9,10] (lb 132 fW) (false :: fW) (iT zs j i) (iw zs j i)=
  (bif decide (i < (↑zs.length:Int)) then (bif decide ((0:Int)≤i)&&decide (i < (↑zs.length:Int)) then (bif decide ((0:Nat)+i.toNat*(1:Nat) < zs.length) then (bif decide ((0:Int)≤i)&&decide (i < (↑j.length:Int)) then (bif decide ((0:Nat)+i.toNat*(1:Nat) < j.length) then (bif aj IntKind.i64 (i+(1:Int)) then some (.normal,av 87 [(5,(.sl false 3 0 0 zs.length)),(9,(.sl false 5 1 0 j.length)),(10,(.val (.int .i64 (i+(1:Int)))))], [(.row (.ints .i64 zs) 3 .live),(.row (.ints .u8 (j.set ((0:Nat)+i.toNat*(1:Nat)) (IntKind.u8.wrap (zs.getD ((0:Nat)+i.toNat*(1:Nat)) (0:Int))))) 5 .live)]) else none) else none) else none) else none) else none) else some ((.exit 4),av 87 [(5,(.sl false 3 0 0 zs.length)),(9,(.sl false 5 1 0 j.length)),(10,(.val (.int .i64 i)))], [(.row (.ints .i64 zs) 3 .live),(.row (.ints .u8 j) 5 .live)])):=by kernel_rfl
theorem Ol {zs:List Int} {j:List Int} {i:Int} {e:Ex} {T:List AV} {H:Hp} (h:aN Tryz.prog bj 132 [5,9,10] (lb 132 fW) (false :: fW) (iT zs j i) (iw zs j i)=some (e,T,H)):V.Ends Tryz.prog false 0 0 (lb 132 fW) (iT zs j i) (iw zs j i) e T H:=
 bw (aH _) aK mixed S8 h
def uB (zs j:List Int) (i:Int):Prop:=jL zs∧j.length=zs.length∧zs.length≤17592186044416∧i=0
def Dy (zs j:List Int) (i:Int) (r:List Int×Int):Prop:=r.1=zs
theorem aav (zs:List Int) (O:jL zs) (a1:zs.length≤17592186044416) (d:Nat):∀ (i:Nat) (j:List Int),i+d=zs.length→j.length=zs.length→(∀ k:Nat,k < i→j[k]? =zs[k]?)→
  ∃ r:List Int×Int,aw Tryz.prog (lb 132 fW) (iT zs j i) (iw zs j i) (.exit 4) (iT zs r.1 r.2) (iw zs r.1 r.2)∧r.1=zs:=by
 induction d with
 | zero=>
  intro i j N I G
  refine ⟨(j,(i:Int)), .last (Ol ?_) (by intro h;cases h), ?_⟩
  ·rw [Ng,dF (show ¬ (i:Int) < (zs.length:Int) by omega)];rfl
  ·apply List.ext_getElem?
   intro k
   by_cases h:k < i
   ·exact G k h
   ·show j[k]? =zs[k]?
    rw [List.getElem?_eq_none (by omega),List.getElem?_eq_none (by omega)]
 | succ d ab=>
  intro i j N I G
  obtain ⟨z,S,U,Z⟩:=KJ O i (by omega)
  obtain ⟨r,J,M⟩:=ab (i+1) (j.set i (z:Int)) (by omega) (by rw [List.length_set];exact I) (fun k a0=>by
   by_cases h:k=i
   ·subst h;rw [List.getElem?_set_self (by omega),U]
   ·rw [List.getElem?_set_ne (by omega)];exact G k (by omega))
  refine ⟨r, .more (Ol ?_) J,M⟩
  rw [Ng,Int.toNat_natCast,Nat.zero_add,Nat.mul_one,Z,kC,Nat.mod_eq_of_lt S,dT (show (0:Int)≤(i:Int) by omega),dT (show (i:Int) < (zs.length:Int) by omega),dT (show (i:Int) < (j.length:Int) by omega),dT (show i < zs.length by omega),dT (show i < j.length by omega),aO (show -9223372036854775808≤(i:Int)+1∧(i:Int)+1≤9223372036854775807 by omega)]
  unfold iT iw
  rw [List.length_set]
  rfl
theorem X5 (zs j:List Int) (i:Int) (h:uB zs j i):∃ r:List Int×Int,aw Tryz.prog (lb 132 fW) (iT zs j i) (iw zs j i) (.exit 4) (iT zs r.1 r.2) (iw zs r.1 r.2)∧Dy zs j i r:=by
 obtain ⟨G,I,J,rfl⟩:=h
 exact aav zs G J zs.length 0 j (by omega) I (fun k M=>absurd M (by omega))
def Gl (M:List Int→List Int→Int→Bool) (G:List Int→List Int→Int→List Int×Int) (T:List AV) (H:Hp):Option (Bool×Ex×List AV×Hp):=
 match al T 5,al T 9,al T 10,H with
 | .sl false 3 0 0 J, .sl false 5 1 0 I, .val (.int .i64 i), [.row (.ints .i64 zs) 3 .live, .row (.ints .u8 j) 5 .live]=>bif T.length==87 then some (decide (J=zs.length)&&decide (I=j.length)&&M zs j i, .exit 4,iT zs ((G zs j i).1) ((G zs j i).2),iw zs ((G zs j i).1) ((G zs j i).2)) else none
 | _,_,_,_=>none
abbrev AA:Type:=List Int→List Int→Int→Bool
abbrev Ai:Type:=List Int→List Int→Int→List Int×Int
def I0 (j:AA) (G:Ai) (L:aE):aE:=bp 0 132 fW [5,9,10] (Gl j G) L
def lQ (zs:List Int) (j:List Int) (i:Int):List Int×Int:=Classical.epsilon fun ρ=>aw Tryz.prog (lb 132 fW) (iT zs j i) (iw zs j i) (.exit 4) (iT zs (ρ.1) (ρ.2)) (iw zs (ρ.1) (ρ.2))∧Dy zs j i ρ
theorem Mx (zs:List Int) (j:List Int) (i:Int) (h:uB zs j i):aw Tryz.prog (lb 132 fW) (iT zs j i) (iw zs j i) (.exit 4) (iT zs ((lQ zs j i).1) ((lQ zs j i).2)) (iw zs ((lQ zs j i).1) ((lQ zs j i).2))∧Dy zs j i (lQ zs j i):=Classical.epsilon_spec (X5 zs j i h)
def sL (zs:List Int) (j:List Int) (i:Int):Bool:= @decide (uB zs j i) (Classical.propDecidable _)
theorem T8 (zs:List Int) (j:List Int) (i:Int) (h:uB zs j i):sL zs j i=true:= @decide_eq_true _ (Classical.propDecidable _) h
theorem adA (T:List AV) (H:Hp) (e:Ex) (I:List AV) (G:Hp) (h:Gl sL lQ T H=some (true,e,I,G)):V.Ends Tryz.prog false 0 0 (.loop (lb 132 fW)) T H e I G:=by
 unfold Gl at h
 split at h
 ·rename_i a3 a2 i zs N S U O
  rw [Bool.cond_eq_ite] at h
  split at h
  ·rename_i J
   rw [beq_iff_eq] at J
   simp only [Option.some.injEq,Prod.mk.injEq,Bool.and_eq_true,decide_eq_true_eq] at h
   obtain ⟨⟨⟨k1,ab⟩,a0⟩,rfl,rfl,rfl⟩:=h
   have a1:= @of_decide_eq_true _ (Classical.propDecidable _) a0
   refine Ends.pre (Mx zs N i a1).1.ends (fun α B w D N Z=>bm J (fun p M y j=> ?_) Z)
   simp only [List.mem_cons,List.not_mem_nil,or_false] at M
   rcases M with rfl | rfl | rfl
   ·rw [S] at j;rw [← k1];exact j
   ·rw [U] at j;rw [← ab];exact j
   ·rw [O] at j;exact j
  ·cases h
 ·cases h
theorem Qq {L:aE} (h:aB Tryz.prog L):aB Tryz.prog (I0 sL lQ L):=h.br Rz adA
def Ht (j:Sg) (G:AD) (J:Ak) (I:AA) (M:Ai):Env:= ⟨an 160 (nY j) aF,ar,I2 G J (I0 I M aq)⟩
theorem aaB (M:Sg) (N:AD) (S:Ak) (O:AA) (J:Ai) (s t:ByteArray):letI I:=((↑s.size:Int)+(↑t.size:Int));letI j:=(S s t (List.replicate I.toNat (0:Int)) ((↑s.size:Int) - (1:Int)));letI G:=(List.replicate (↑j.fst.length:Int).toNat (0:Int));
  (aD Tryz.prog (Ht M N S O J) 10 10 132 [.val (.string s), .val (.string t)]=(bif aj IntKind.i64 I then (bif decide ((↑s.size:Int)+(↑t.size:Int)≤(↑s.size:Int)+(↑t.size:Int))&&decide ((8:Int)*I≤(281474976710656:Int))&&decide ((↑s.size:Int)+(↑t.size:Int)≤(9223372036854775807:Int)) then (bif aj IntKind.i64 ((↑s.size:Int) - (1:Int)) then (bif decide (I.toNat=(List.replicate I.toNat (0:Int)).length)&&N s t (List.replicate I.toNat (0:Int)) ((↑s.size:Int) - (1:Int)) then (bif decide ((↑j.fst.length:Int)≤(↑j.fst.length:Int))&&decide ((1:Int)*(↑j.fst.length:Int)≤(281474976710656:Int))&&decide ((↑j.fst.length:Int)≤(9223372036854775807:Int)) then (bif decide (j.fst.length=j.fst.length)&&decide ((↑j.fst.length:Int).toNat=G.length)&&O j.fst G (0:Int) then (bif decide ((0:Nat)+(J j.fst G (0:Int)).fst.length*(1:Nat)≤(J j.fst G (0:Int)).fst.length) then some (.val (.string (M.mg (M.vs (ofBytes (List.take ((J j.fst G (0:Int)).fst.length*(1:Nat)) (List.drop (0:Nat) (J j.fst G (0:Int)).fst))))))) else none) else none) else none) else none) else none) else none) else none)):=by kernel_rfl
end
end Go.Proofs.YtamcpiicmfielaaGreat.L
namespace Go.Proofs.YtamcpiicmfielaaGreat.L
open Go Go.V Go.RowKit Go.Proofs.YtamcpiicmfielaaGreat.Sp Go.Proofs.YtamcpiicmfielaaGreat.F Go.Proofs.YtamcpiicmfielaaGreatW.PrintWords
open Go.Proofs (Tryz.prog)
noncomputable section
def FF (j:Sg) (args:List AV):Option (Bool×AV):=match args with | [.val (.string s), .val (.string t)]=>some (j.ok s&&j.ok t, .val (.string (j.mg (j.vs s*j.vs t)))) | _=>none
theorem toNatN (n:Nat):(n:Int).toNat=n:=of_eq_true (eq_true rfl)
theorem VP:Entry Tryz.prog 132 (FF aa):=by
 refine aX (E:=Ht aa sN cZ sL lQ) (u:=10) (d:=10) ((aH _).add qp) (Qs (Qq aB.none)).ok mixed (by kernel_rfl) (fun args r h=> ?_)
 unfold FF at h
 split at h
 ·rename_i s t
  simp only [Option.some.injEq,Prod.mk.injEq,Bool.and_eq_true] at h
  obtain ⟨⟨U,Z⟩,rfl⟩:=h
  have z1:=kN U
  have z2:=kN Z
  have I:uD s t (List.replicate (s.size+t.size) 0) ((s.size:Int) - 1):= ⟨z1,z2,rfl,rfl⟩
  obtain ⟨_,ab,M,N⟩:=Mz _ _ _ _ I
  have j:=aaB aa sN cZ sL lQ s t
  have S:((s.size:Int)+(t.size:Int))=((s.size+t.size:Nat):Int):=(Int.natCast_add _ _).symm
  rw [S] at j
  simp only [toNatN,List.length_replicate,eq_self,decide_true] at j
  rw [Ua _ _ _ _ I] at j
  have J:uB (cZ s t (List.replicate (s.size+t.size) 0) ((s.size:Int) - 1)).1 (List.replicate (cZ s t (List.replicate (s.size+t.size) 0) ((s.size:Int) - 1)).1.length 0) 0:= ⟨M,by rw [List.length_replicate],by omega,rfl⟩
  obtain ⟨_,G⟩:=Mx _ _ _ J
  rw [T8 _ _ _ J] at j
  have G:(lQ (cZ s t (List.replicate (s.size+t.size) 0) ((s.size:Int) - 1)).1 (List.replicate (cZ s t (List.replicate (s.size+t.size) 0) ((s.size:Int) - 1)).1.length 0) 0).1=(cZ s t (List.replicate (s.size+t.size) 0) ((s.size:Int) - 1)).1:=G
  rw [G,bz _ (by omega),dT (show ((s.size+t.size:Nat):Int)≤((s.size+t.size:Nat):Int) by omega),dT (show (8:Int)*((s.size+t.size:Nat):Int)≤281474976710656 by omega),dT (show ((s.size+t.size:Nat):Int)≤9223372036854775807 by omega),aO (show -9223372036854775808≤(s.size:Int) - 1∧(s.size:Int) - 1≤9223372036854775807 by omega),dT (show (((cZ s t (List.replicate (s.size+t.size) 0) ((s.size:Int) - 1)).1.length:Nat):Int)≤(((cZ s t (List.replicate (s.size+t.size) 0) ((s.size:Int) - 1)).1.length:Nat):Int) by omega),dT (show (1:Int)*(((cZ s t (List.replicate (s.size+t.size) 0) ((s.size:Int) - 1)).1.length:Nat):Int)≤281474976710656 by omega),dT (show (((cZ s t (List.replicate (s.size+t.size) 0) ((s.size:Int) - 1)).1.length:Nat):Int)≤9223372036854775807 by omega),dT (show 0+(cZ s t (List.replicate (s.size+t.size) 0) ((s.size:Int) - 1)).1.length*1≤(cZ s t (List.replicate (s.size+t.size) 0) ((s.size:Int) - 1)).1.length by omega),Nat.mul_one,List.drop_zero,List.take_length] at j
  have O:aa.vs (ofBytes (cZ s t (List.replicate (s.size+t.size) 0) ((s.size:Int) - 1)).1)=aa.vs s*aa.vs t:=N
  rw [← O]
  exact j
 ·cases h
def zO (j:Sg):FuncId→List AV→Option (Bool×AV):=an 130 (nU j) (an 132 (FF j) (an 131 (zo j) (an 124 (kB j) aF)))
theorem PI:bb Tryz.prog (zO aa):=((((aH _).add tf).add Kl).add VP).add sZ
theorem aaA (j:Sg) (b c:Bool) (s t:ByteArray):letI G:=(j.val (j.ng (j.val b s)) (j.ms (j.val b s))*j.val (j.ng (j.val c t)) (j.ms (j.val c t)));
  (aD Tryz.prog ⟨zO j,ar,aq⟩ 10 10 96 [.agg [.val (.bool b), .val (.string s)], .agg [.val (.bool c), .val (.string t)]]=(bif aG (j.ms (j.val b s)) (ByteArray.mk #[]) then some (.agg [(.val (.bool false)),(.val (.string (ByteArray.mk #[])))]) else (bif aG (j.ms (j.val c t)) (ByteArray.mk #[]) then some (.agg [(.val (.bool false)),(.val (.string (ByteArray.mk #[])))]) else (bif aj IntKind.i64 ((↑(j.ms (j.val b s)).size:Int)+(↑(j.ms (j.val c t)).size:Int)) then (bif decide ((↑(j.ms (j.val b s)).size:Int)+(↑(j.ms (j.val c t)).size:Int) < (8:Int)) then (bif decide ((j.ms (j.val b s)).size≤(8:Nat))&&decide (j.vs (j.ms (j.val b s)) < (9223372036854775808:Nat)) then (bif decide ((j.ms (j.val c t)).size≤(8:Nat))&&decide (j.vs (j.ms (j.val c t)) < (9223372036854775808:Nat)) then (bif aj IntKind.i64 G then (bif cI G then some (.agg [(.val (.bool (j.ng G))),(.val (.string (j.ms G)))]) else none) else none) else none) else none) else (bif j.ok (j.ms (j.val b s))&&j.ok (j.ms (j.val c t)) then some (.agg [(.val (.bool (bif true then !j.ng (j.val b s)==j.ng (j.val c t) else j.ng (j.val b s)==j.ng (j.val c t)))),(.val (.string (j.mg (j.vs (j.ms (j.val b s))*j.vs (j.ms (j.val c t))))))]) else none)) else none)))):=by kernel_rfl
theorem RZ {a b:Nat} (h:bs a+bs b < 8):a*b < 72057594037927936:=by
 have j:=wH a b
 exact vp (by omega)
theorem VO:Entry Tryz.prog 96 (rC aa):=by
 refine aX (E:= ⟨zO aa,ar,aq⟩) (u:=10) (d:=10) PI aK mixed (by kernel_rfl) (fun args r h=> ?_)
 unfold rC at h
 split at h
 ·rename_i b s c t
  simp only [Option.some.injEq,Prod.mk.injEq,Bool.and_eq_true] at h
  obtain ⟨⟨U,Z⟩,rfl⟩:=h
  have J:=aaA aa b c s t
  have O:=Nat.le_trans (dv b s) (kN U)
  have S:=Nat.le_trans (dv c t) (kN Z)
  generalize aa.val b s=x at*
  generalize aa.val c t=y at*
  simp only [pQ,pC,dp,qJ] at J
  rw [bA O,bA S] at J
  rw [J]
  clear J
  by_cases I:x=0
  ·rw [dT I,I,Int.zero_mul]
   unfold Sg.int
   rw [lB]
   rfl
  by_cases M:y=0
  ·rw [dF I,dT M,M,Int.mul_zero]
   unfold Sg.int
   rw [lB]
   rfl
  rw [dF I,dF M,aO (show -9223372036854775808≤(bs x.natAbs:Int)+(bs y.natAbs:Int)∧(bs x.natAbs:Int)+(bs y.natAbs:Int)≤9223372036854775807 by omega)]
  by_cases N:(bs x.natAbs:Int)+(bs y.natAbs:Int) < 8
  ·have k:=RZ (show bs x.natAbs+bs y.natAbs < 8 by omega)
   have k1:=vp (show bs x.natAbs < 8 by omega)
   have a0:=vp (show bs y.natAbs < 8 by omega)
   have a1:(x*y).natAbs < 72057594037927936:=by rw [Int.natAbs_mul];exact k
   rw [dT N,dT (show bs x.natAbs≤8 by omega),dT (show bs y.natAbs≤8 by omega),dT (show x.natAbs < 9223372036854775808 by omega),dT (show y.natAbs < 9223372036854775808 by omega),aO (show -9223372036854775808≤x*y∧x*y≤9223372036854775807 by omega)]
   unfold cI
   rw [dT (show -9223372036854775808≤x*y by omega),dT (show x*y≤9223372036854775807 by omega)]
   rfl
  ·rw [dF N]
   have ab:(!(aa.ng x==aa.ng y))=decide (x*y < 0):=by
    rcases Int.lt_or_gt_of_ne I with j | j <;> rcases Int.lt_or_gt_of_ne M with G | G
    ·have:=Int.mul_pos_of_neg_of_neg j G
     rw [tJ (by omega),dF (show ¬ x*y < 0 by omega)];rfl
    ·have:=Int.mul_neg_of_neg_of_pos j G
     rw [tK (by omega),dT (show x*y < 0 by omega)];rfl
    ·have:=Int.mul_neg_of_pos_of_neg j G
     rw [tK (by omega),dT (show x*y < 0 by omega)];rfl
    ·have:=Int.mul_pos j G
     rw [tJ (by omega),dF (show ¬ x*y < 0 by omega)];rfl
   exact congrArg some (int_eq (n:=x.natAbs*y.natAbs) ab (Int.natAbs_mul x y).symm)
 ·cases h
end
end Go.Proofs.YtamcpiicmfielaaGreat.L
