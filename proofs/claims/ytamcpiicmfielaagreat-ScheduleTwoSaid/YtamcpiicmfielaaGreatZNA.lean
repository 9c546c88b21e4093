import Derived.Test.YtamcpiicmfielaaGreatZQA
set_option linter.unusedVariables false
set_option linter.unusedSimpArgs false
namespace Go.Proofs.YtamcpiicmfielaaGreat.L
open Go Go.V Go.RowKit Go.Proofs.YtamcpiicmfielaaGreat.Sp Go.Proofs.YtamcpiicmfielaaGreat.F Go.Proofs.YtamcpiicmfielaaGreatW.PrintWords
open Go.Proofs (Tryz.prog)
noncomputable section
def vY (zs:List Int):Nat:=vB (zs.map fun z=>UInt8.ofNat z.toNat)
theorem ahk (x:Nat) (zs:List Int) (h:x < 256):vY ((x:Int) :: zs)=x*256 ^ zs.length+vY zs:=by
 unfold vY
 rw [List.map_cons,lJ,List.length_map,Int.toNat_natCast,UInt8.toNat_ofNat',Nat.mod_eq_of_lt h]
theorem Q7:vY []=0:=rfl
theorem Ra (zs:List Int) (j x:Nat) (G:j < zs.length) (I:x < 256):vY ((zs.set j (x:Int)).drop j)=x*256 ^ (zs.length - j - 1)+vY (zs.drop (j+1)):=by
 rw [List.drop_eq_getElem_cons (by rw [List.length_set];exact G),List.getElem_set_self,ahk _ _ I,List.length_drop,List.length_set,List.drop_set_of_lt (by omega)]
 rw [show zs.length - (j+1)=zs.length - j - 1 by omega]
theorem ym (s:ByteArray) (i:Nat) (U:i < s.size):aR s (s.size - (i+1))=((vS s / 256 ^ i % 256:Nat):Int):=by
 have I:s.size - (i+1) < s.data.toList.length:=by rw [← mw];omega
 unfold aR
 rw [List.getD_eq_getElem?_getD,List.getElem?_eq_getElem I,Option.getD_some]
 have e:s.data.toList=s.data.toList.take (s.size - (i+1)) ++ (s.data.toList[s.size - (i+1)] :: s.data.toList.drop (s.size - (i+1)+1)):=by
  rw [← List.drop_eq_getElem_cons I,List.take_append_drop]
 have M:vS s=vB s.data.toList:=rfl
 have G:(s.data.toList.drop (s.size - (i+1)+1)).length=i:=by rw [List.length_drop,← mw];omega
 have J:=oW (s.data.toList.drop (s.size - (i+1)+1))
 rw [G] at J
 have Z:=(s.data.toList[s.size - (i+1)]).toNat_lt
 have O:vS s=(vB (s.data.toList.take (s.size - (i+1)))*256+(s.data.toList[s.size - (i+1)]).toNat)*256 ^ i+vB (s.data.toList.drop (s.size - (i+1)+1)):=by
  rw [M]
  conv=>lhs;rw [e]
  rw [Ia,List.length_cons,G,lJ,G,Nat.pow_succ,Nat.add_mul]
  have:∀ a:Nat,a*(256 ^ i*256)=a*256*256 ^ i:=fun a=>by rw [Nat.mul_assoc,Nat.mul_comm 256]
  rw [this]
  omega
 rw [O,Nat.mul_comm _ (256 ^ i),Nat.mul_add_div (Nat.pow_pos (by decide)),Nat.div_eq_of_lt J]
 omega
theorem Eg (s:ByteArray) (i:Nat) (h:s.size≤i):vS s / 256 ^ i % 256=0:=by
 rw [Nat.div_eq_of_lt (Nat.lt_of_lt_of_le (lK s) (Nat.pow_le_pow_right (by decide) h))]
theorem mod_succ (V i:Nat):V % 256 ^ (i+1)=V % 256 ^ i+256 ^ i*(V / 256 ^ i % 256):=by rw [Nat.pow_succ,Nat.mod_mul]
theorem Us {p n v c o:Nat} (h:v+p*c=o):n % 256*p+v+p*256*(n / 256)+p*c=o+p*n:=by
 have e:p*(n % 256)+p*256*(n / 256)=p*n:=by rw [Nat.mul_assoc,← Nat.mul_add,Nat.mod_add_div]
 rw [Nat.mul_comm (n % 256)]
 omega
theorem kY (n:Nat):IntKind.u8.wrap (n:Int)=((n % 256:Nat):Int):=by rw [sV];rfl
theorem uv (a:Nat):(a:Int).fdiv (256:Int)=((a / 256:Nat):Int):=iJ a 256
abbrev eI:List Bool:= [false,true,false,true,true,true,true]
def dE (s t:ByteArray) (n:Int) (zs:List Int) (c i:Int):List AV:=ar 60 [(0, .val (.string s)),(1, .val (.string t)),(5, .val (.int .i64 n)),(6, .sl false 5 0 0 zs.length),(7, .val (.int .i64 c)),(8, .val (.int .i64 i))]
def dz (s t:ByteArray) (n:Int) (zs:List Int) (c i:Int):Hp:= [.row (.ints .u8 zs) 5 .live]
theorem TP:aH Tryz.prog 136 eI=some (.loop (lb 136 eI)):=by kernel_rfl
theorem Vu:aH Tryz.prog 136 (false :: eI)=some (lb 136 eI):=by kernel_rfl
theorem Pd (s t:ByteArray) (n:Int) (zs:List Int) (c i:Int):letI I:=(c+aR s ((↑s.size:Int) - i).toNat+aR t ((↑t.size:Int) - i).toNat);letI G:=(0+(n - i).toNat*1);
  (aO Tryz.prog br 136 [0,1,5,6,7,8] (lb 136 eI) (false :: eI) (dE s t n zs c i) (dz s t n zs c i)=(bif decide (i≤n) then (bif decide (i≤(↑s.size:Int)) then (bif ai IntKind.i64 ((↑s.size:Int) - i) then (bif decide (0≤(↑s.size:Int) - i)&&decide ((↑s.size:Int) - i < (↑s.size:Int)) then (bif ai IntKind.i64 (aR s ((↑s.size:Int) - i).toNat) then (bif ai IntKind.i64 (c+aR s ((↑s.size:Int) - i).toNat) then (bif decide (i≤(↑t.size:Int)) then (bif ai IntKind.i64 ((↑t.size:Int) - i) then (bif decide (0≤(↑t.size:Int) - i)&&decide ((↑t.size:Int) - i < (↑t.size:Int)) then (bif ai IntKind.i64 (aR t ((↑t.size:Int) - i).toNat) then (bif ai IntKind.i64 I then (bif ai IntKind.i64 (n - i) then (bif decide (0≤n - i)&&decide (n - i < (↑zs.length:Int)) then (bif decide (0+(n - i).toNat*1 < zs.length) then (bif ai IntKind.i64 (i+1) then some (.normal,ar 60 [(0,(.val (.string s))),(1,(.val (.string t))),(5,(.val (.int .i64 n))),(6,(.sl false 5 0 0 zs.length)),(7,(.val (.int .i64 (I.fdiv (256:Int))))),(8,(.val (.int .i64 (i+1))))], [(.row (.ints .u8 (zs.set G (IntKind.u8.wrap I))) 5 .live)]) else none) else none) else none) else none) else none) else none) else none) else none) else (bif ai IntKind.i64 (n - i) then (bif decide (0≤n - i)&&decide (n - i < (↑zs.length:Int)) then (bif decide (0+(n - i).toNat*1 < zs.length) then (bif ai IntKind.i64 (i+1) then some (.normal,ar 60 [(0,(.val (.string s))),(1,(.val (.string t))),(5,(.val (.int .i64 n))),(6,(.sl false 5 0 0 zs.length)),(7,(.val (.int .i64 ((c+aR s ((↑s.size:Int) - i).toNat).fdiv (256:Int))))),(8,(.val (.int .i64 (i+1))))], [(.row (.ints .u8 (zs.set G (IntKind.u8.wrap (c+aR s ((↑s.size:Int) - i).toNat)))) 5 .live)]) else none) else none) else none) else none)) else none) else none) else none) else none) else (bif decide (i≤(↑t.size:Int)) then (bif ai IntKind.i64 ((↑t.size:Int) - i) then (bif decide (0≤(↑t.size:Int) - i)&&decide ((↑t.size:Int) - i < (↑t.size:Int)) then (bif ai IntKind.i64 (aR t ((↑t.size:Int) - i).toNat) then (bif ai IntKind.i64 (c+aR t ((↑t.size:Int) - i).toNat) then (bif ai IntKind.i64 (n - i) then (bif decide (0≤n - i)&&decide (n - i < (↑zs.length:Int)) then (bif decide (0+(n - i).toNat*1 < zs.length) then (bif ai IntKind.i64 (i+1) then some (.normal,ar 60 [(0,(.val (.string s))),(1,(.val (.string t))),(5,(.val (.int .i64 n))),(6,(.sl false 5 0 0 zs.length)),(7,(.val (.int .i64 ((c+aR t ((↑t.size:Int) - i).toNat).fdiv (256:Int))))),(8,(.val (.int .i64 (i+1))))], [(.row (.ints .u8 (zs.set G (IntKind.u8.wrap (c+aR t ((↑t.size:Int) - i).toNat)))) 5 .live)]) else none) else none) else none) else none) else none) else none) else none) else none) else (bif ai IntKind.i64 (n - i) then (bif decide (0≤n - i)&&decide (n - i < (↑zs.length:Int)) then (bif decide (0+(n - i).toNat*1 < zs.length) then (bif ai IntKind.i64 (i+1) then some (.normal,ar 60 [(0,(.val (.string s))),(1,(.val (.string t))),(5,(.val (.int .i64 n))),(6,(.sl false 5 0 0 zs.length)),(7,(.val (.int .i64 (c.fdiv (256:Int))))),(8,(.val (.int .i64 (i+1))))], [(.row (.ints .u8 (zs.set G (IntKind.u8.wrap c))) 5 .live)]) else none) else none) else none) else none))) else some ((.exit 0),ar 60 [(0,(.val (.string s))),(1,(.val (.string t))),(5,(.val (.int .i64 n))),(6,(.sl false 5 0 0 zs.length)),(7,(.val (.int .i64 c))),(8,(.val (.int .i64 i)))], [(.row (.ints .u8 zs) 5 .live)]))):=by kernel_rfl
theorem Qc {s t:ByteArray} {n:Int} {zs:List Int} {c i:Int} {e:Ex} {T:List AV} {H:Hp} (h:aO Tryz.prog br 136 [0,1,5,6,7,8] (lb 136 eI) (false :: eI) (dE s t n zs c i) (dz s t n zs c i)=some (e,T,H)):V.Ends Tryz.prog false 0 0 (lb 136 eI) (dE s t n zs c i) (dz s t n zs c i) e T H:=
 bF (aJ _) aN mixed Vu h
def vD (s t:ByteArray) (n:Int) (zs:List Int) (c i:Int):Prop:=s.size≤8796093022208∧t.size≤8796093022208∧n=((max s.size t.size+1:Nat):Int)∧zs.length=max s.size t.size+1∧c=0∧i=1
def EV (s t:ByteArray) (n:Int) (zs:List Int) (c i:Int) (r:List Int×Int×Int):Prop:=r.1.length=max s.size t.size+1∧vY r.1=vS s+vS t
theorem ac5 (s t:ByteArray) (c5:s.size≤8796093022208) (c6:t.size≤8796093022208) (n:Nat) (c4:n=max s.size t.size+1) (d:Nat):∀ (i c:Nat) (zs:List Int),i+d=n→zs.length=n→c≤1→
  dQ (vY (zs.drop (n - i))+256 ^ i*c=vS s % 256 ^ i+vS t % 256 ^ i)→
  ∃ r:List Int×Int×Int,av Tryz.prog (lb 136 eI) (dE s t n zs c ((i+1:Nat):Int)) (dz s t n zs c ((i+1:Nat):Int)) (.exit 0) (dE s t n r.1 r.2.1 r.2.2) (dz s t n r.1 r.2.1 r.2.2)∧r.1.length=n∧vY r.1=vS s+vS t:=by
 induction d with
 | zero=>
  intro i c zs hi M b6 I
  have ct:i=n:=by omega
  refine ⟨(zs,(c:Int),((i+1:Nat):Int)), .last (Qc ?_) (by intro h;cases h),M, ?_⟩
  ·rw [Pd,dF (show ¬ (((i+1:Nat):Int)≤n) by omega)]
   rfl
  ·have I:=I.out
   rw [ct,Nat.sub_self,List.drop_zero] at I
   have a1:vS s < 256 ^ (n - 1):=Nat.lt_of_lt_of_le (lK s) (Nat.pow_le_pow_right (by decide) (by omega))
   have a6:vS t < 256 ^ (n - 1):=Nat.lt_of_lt_of_le (lK t) (Nat.pow_le_pow_right (by decide) (by omega))
   have U:256 ^ n=256 ^ (n - 1)*256:=by rw [← Nat.pow_succ];exact congrArg (256 ^ ·) (by omega)
   rw [U] at I
   rw [Nat.mod_eq_of_lt (show vS s < 256 ^ (n - 1)*256 by omega),Nat.mod_eq_of_lt (show vS t < 256 ^ (n - 1)*256 by omega)] at I
   show vY zs=_
   rcases Nat.eq_zero_or_pos c with O | O
   ·rw [O] at I;omega
   ·have:=Nat.le_mul_of_pos_right (256 ^ (n - 1)*256) O
    omega
 | succ d c0=>
  intro i c zs hi M b6 b1
  have c3:i < n:=by omega
  have a7:n - (i+1) < zs.length:=by omega
  have go:∀ x y:Nat,x < 256→y < 256→x=vS s / 256 ^ i % 256→y=vS t / 256 ^ i % 256→
    aO Tryz.prog br 136 [0,1,5,6,7,8] (lb 136 eI) (false :: eI) (dE s t n zs c ((i+1:Nat):Int)) (dz s t n zs c ((i+1:Nat):Int))=some (.normal,dE s t n (zs.set (n - (i+1)) ((c+x+y) % 256:Nat)) ((c+x+y) / 256:Nat) ((i+1+1:Nat):Int),dz s t n (zs.set (n - (i+1)) ((c+x+y) % 256:Nat)) ((c+x+y) / 256:Nat) ((i+1+1:Nat):Int))→
    ∃ r:List Int×Int×Int,av Tryz.prog (lb 136 eI) (dE s t n zs c ((i+1:Nat):Int)) (dz s t n zs c ((i+1:Nat):Int)) (.exit 0) (dE s t n r.1 r.2.1 r.2.2) (dz s t n r.1 r.2.1 r.2.2)∧r.1.length=n∧vY r.1=vS s+vS t:=by
   intro x y c7 dx ex ey G
   obtain ⟨r,a1,a6⟩:=c0 (i+1) ((c+x+y) / 256) (zs.set (n - (i+1)) ((c+x+y) % 256:Nat)) (by omega) (by rw [List.length_set];exact M) (by omega) (by
    have I:=b1.out
    constructor
    rw [Ra _ _ _ a7 (Nat.mod_lt _ (by decide)),M,show n - (n - (i+1)) - 1=i by omega,show n - (i+1)+1=n - i by omega,mod_succ,mod_succ,← ex,← ey,Nat.pow_succ]
    have U:=Us (n:=c+x+y) I
    simp only [Nat.mul_add] at U ⊢
    omega)
   exact ⟨r, .more (Qc G) a1,a6⟩
  have G:=Pd s t n zs c ((i+1:Nat):Int)
  have b4:(n:Int) - ((i+1:Nat):Int)=((n - (i+1):Nat):Int):=by omega
  have b5:i < s.size→(s.size:Int) - ((i+1:Nat):Int)=((s.size - (i+1):Nat):Int):=fun h=>by omega
  have aE:i < t.size→(t.size:Int) - ((i+1:Nat):Int)=((t.size - (i+1):Nat):Int):=fun h=>by omega
  have b3:((i+1:Nat):Int)+1=((i+1+1:Nat):Int):=by omega
  have b7:=Nat.mod_lt (vS s / 256 ^ i) (show 0 < 256 by decide)
  have ch:=Nat.mod_lt (vS t / 256 ^ i) (show 0 < 256 by decide)
  have b2:=ym s i
  have ab:=ym t i
  have nx:=Eg s i
  have b0:=Eg t i
  generalize vS s / 256 ^ i % 256=x at*
  generalize vS t / 256 ^ i % 256=y at*
  have q1:ai .i64 ((n - (i+1):Nat):Int)=true:=bH _ (by omega)
  have q2:ai .i64 ((i+1+1:Nat):Int)=true:=bH _ (by omega)
  refine go x y b7 ch rfl rfl ?_
  rw [b4,b3,q1,q2,dT (show ((i+1:Nat):Int)≤n by omega),dT (show (0:Int)≤((n - (i+1):Nat):Int) by omega),dT (show ((n - (i+1):Nat):Int) < (zs.length:Int) by omega),Int.toNat_natCast,Nat.zero_add,Nat.mul_one,dT a7] at G
  by_cases bx:i < s.size
  ·rw [dT (show ((i+1:Nat):Int)≤s.size by omega),b5 bx,bH (s.size - (i+1)) (by omega),dT (show (0:Int)≤((s.size - (i+1):Nat):Int) by omega),dT (show ((s.size - (i+1):Nat):Int) < (s.size:Int) by omega),Int.toNat_natCast,b2 bx,bH x (by omega),← Int.natCast_add,bH (c+x) (by omega)] at G
   by_cases J:i < t.size
   ·rw [dT (show ((i+1:Nat):Int)≤t.size by omega),aE J,bH (t.size - (i+1)) (by omega),dT (show (0:Int)≤((t.size - (i+1):Nat):Int) by omega),dT (show ((t.size - (i+1):Nat):Int) < (t.size:Int) by omega),Int.toNat_natCast,ab J,bH y (by omega),← Int.natCast_add,bH (c+x+y) (by omega),kY,uv] at G
    rw [G]
    unfold dE dz
    rw [List.length_set]
    rfl
   ·have Z:=b0 (by omega)
    rw [dF (show ¬ ((i+1:Nat):Int)≤t.size by omega),kY,uv] at G
    rw [G,Z]
    unfold dE dz
    rw [List.length_set]
    rfl
  ·have bD:=nx (by omega)
   rw [dF (show ¬ ((i+1:Nat):Int)≤s.size by omega)] at G
   by_cases J:i < t.size
   ·rw [dT (show ((i+1:Nat):Int)≤t.size by omega),aE J,bH (t.size - (i+1)) (by omega),dT (show (0:Int)≤((t.size - (i+1):Nat):Int) by omega),dT (show ((t.size - (i+1):Nat):Int) < (t.size:Int) by omega),Int.toNat_natCast,ab J,bH y (by omega),← Int.natCast_add,bH (c+y) (by omega),kY,uv] at G
    rw [G,bD]
    unfold dE dz
    rw [List.length_set]
    rfl
   ·have Z:=b0 (by omega)
    rw [dF (show ¬ ((i+1:Nat):Int)≤t.size by omega),kY,uv] at G
    rw [G,bD,Z]
    unfold dE dz
    rw [List.length_set]
    rfl
theorem aaT (s t:ByteArray) (n:Int) (zs:List Int) (c i:Int) (h:vD s t n zs c i):∃ r:List Int×Int×Int,av Tryz.prog (lb 136 eI) (dE s t n zs c i) (dz s t n zs c i) (.exit 0) (dE s t n r.1 r.2.1 r.2.2) (dz s t n r.1 r.2.1 r.2.2)∧EV s t n zs c i r:=by
 obtain ⟨G,I,rfl,J,rfl,rfl⟩:=h
 obtain ⟨r,k1,M,O⟩:=ac5 s t G I _ rfl (max s.size t.size+1) 0 0 zs (by omega) J (by omega) ⟨by rw [Nat.sub_zero,List.drop_of_length_le (by omega),Q7];simp [Nat.mod_one]⟩
 exact ⟨r,k1,M,O⟩
def HB (J:ByteArray→ByteArray→Int→List Int→Int→Int→Bool) (G:ByteArray→ByteArray→Int→List Int→Int→Int→List Int×Int×Int) (T:List AV) (H:Hp):Option (Bool×Ex×List AV×Hp):=
 match al T 0,al T 1,al T 5,al T 6,al T 7,al T 8,H with
 | .val (.string s), .val (.string t), .val (.int .i64 n), .sl false 5 0 0 I, .val (.int .i64 c), .val (.int .i64 i), [.row (.ints .u8 zs) 5 .live]=>bif T.length==60 then some (decide (I=zs.length)&&J s t n zs c i, .exit 0,dE s t n ((G s t n zs c i).1) ((G s t n zs c i).2.1) ((G s t n zs c i).2.2),dz s t n ((G s t n zs c i).1) ((G s t n zs c i).2.1) ((G s t n zs c i).2.2)) else none
 | _,_,_,_,_,_,_=>none
abbrev BK:Type:=ByteArray→ByteArray→Int→List Int→Int→Int→Bool
abbrev Bo:Type:=ByteArray→ByteArray→Int→List Int→Int→Int→List Int×Int×Int
def J7 (G:BK) (I:Bo) (L:aC):aC:=bp 0 136 eI [0,1,5,6,7,8] (HB G I) L
def kq (s t:ByteArray) (n:Int) (zs:List Int) (c i:Int):List Int×Int×Int:=Classical.epsilon fun ρ=>av Tryz.prog (lb 136 eI) (dE s t n zs c i) (dz s t n zs c i) (.exit 0) (dE s t n (ρ.1) (ρ.2.1) (ρ.2.2)) (dz s t n (ρ.1) (ρ.2.1) (ρ.2.2))∧EV s t n zs c i ρ
theorem On (s t:ByteArray) (n:Int) (zs:List Int) (c i:Int) (h:vD s t n zs c i):av Tryz.prog (lb 136 eI) (dE s t n zs c i) (dz s t n zs c i) (.exit 0) (dE s t n ((kq s t n zs c i).1) ((kq s t n zs c i).2.1) ((kq s t n zs c i).2.2)) (dz s t n ((kq s t n zs c i).1) ((kq s t n zs c i).2.1) ((kq s t n zs c i).2.2))∧EV s t n zs c i (kq s t n zs c i):=Classical.epsilon_spec (aaT s t n zs c i h)
def tS (s t:ByteArray) (n:Int) (zs:List Int) (c i:Int):Bool:= @decide (vD s t n zs c i) (Classical.propDecidable _)
theorem Wq (s t:ByteArray) (n:Int) (zs:List Int) (c i:Int) (h:vD s t n zs c i):tS s t n zs c i=true:= @decide_eq_true _ (Classical.propDecidable _) h
theorem agv (T:List AV) (H:Hp) (e:Ex) (J:List AV) (I:Hp) (h:HB tS kq T H=some (true,e,J,I)):V.Ends Tryz.prog false 0 0 (.loop (lb 136 eI)) T H e J I:=by
 unfold HB at h
 split at h
 ·rename_i s t n b0 c i zs U Z ab aE a1 a6
  rw [Bool.cond_eq_ite] at h
  split at h
  ·rename_i M
   rw [beq_iff_eq] at M
   simp only [Option.some.injEq,Prod.mk.injEq,Bool.and_eq_true,decide_eq_true_eq] at h
   obtain ⟨⟨k1,bx⟩,rfl,rfl,rfl⟩:=h
   have bD:= @of_decide_eq_true _ (Classical.propDecidable _) bx
   refine Ends.pre (On s t n zs c i bD).1.ends (fun α B w D b1 a7=>bq M (fun p O y G=> ?_) a7)
   simp only [List.mem_cons,List.not_mem_nil,or_false] at O
   rcases O with rfl | rfl | rfl | rfl | rfl | rfl
   ·rw [U] at G;exact G
   ·rw [Z] at G;exact G
   ·rw [ab] at G;exact G
   ·rw [aE] at G;rw [← k1];exact G
   ·rw [a1] at G;exact G
   ·rw [a6] at G;exact G
  ·cases h
 ·cases h
theorem Sr {L:aC} (h:aB Tryz.prog L):aB Tryz.prog (J7 tS kq L):=h.bz TP agv
def IG (S:Sg) (G:BK) (I:Bo):Env:= ⟨aw 160 (oV S) aK,au,J7 G I aq⟩
theorem ac4 (S:Sg) (M:BK) (O:Bo) (s t:ByteArray):letI I:=(lq (↑s.size:Int) (↑t.size:Int));letI G:=(I+1);letI J:=(O s t G (List.replicate G.toNat (0:Int)) (0:Int) (1:Int));
  (aF Tryz.prog (IG S M O) 10 10 136 [.val (.string s), .val (.string t)]=(bif ai IntKind.i64 G then (bif decide (0≤I+1)&&decide (I+1≤I+1)&&decide (1*G≤281474976710656)&&decide (I+(1:Int)≤(9223372036854775807:Int)) then (bif decide (G.toNat=(List.replicate G.toNat (0:Int)).length)&&M s t G (List.replicate G.toNat (0:Int)) (0:Int) (1:Int) then (bif decide (0+J.fst.length*1≤J.fst.length) then some (.val (.string (S.mg (S.vs (ofBytes (List.take (J.fst.length*1) (List.drop 0 J.fst))))))) else none) else none) else none) else none)):=by kernel_rfl
def As (S:Sg) (args:List AV):Option (Bool×AV):=match args with | [.val (.string s), .val (.string t)]=>some (S.ok s&&S.ok t, .val (.string (S.mg (S.vs s+S.vs t)))) | _=>none
theorem lx {s:ByteArray} (h:aa.ok s=true):s.size≤8796093022208:=of_decide_eq_true h
theorem Lx:Entry Tryz.prog 136 (As aa):=by
 refine bg (E:=IG aa tS kq) (u:=10) (d:=10) ((aJ _).add ry) (Sr aB.none).ok mixed (by kernel_rfl) (fun args r h=> ?_)
 unfold As at h
 split at h
 ·rename_i s t
  simp only [Option.some.injEq,Prod.mk.injEq,Bool.and_eq_true] at h
  obtain ⟨⟨O,U⟩,rfl⟩:=h
  have z1:=lx O
  have z2:=lx U
  have e1:((max s.size t.size:Nat):Int)+1=((max s.size t.size+1:Nat):Int):=by omega
  have I:vD s t ((max s.size t.size+1:Nat):Int) (List.replicate (max s.size t.size+1) 0) 0 1:= ⟨z1,z2,rfl,by simp,rfl,rfl⟩
  obtain ⟨_,Z,J⟩:=On _ _ _ _ _ _ I
  have G:=ac4 aa tS kq s t
  simp only [Np,e1,Int.toNat_natCast,List.length_replicate,eq_self,decide_true,Nat.mul_one,Nat.zero_add,List.drop_zero] at G
  rw [Wq _ _ _ _ _ _ I] at G
  generalize kq s t ((max s.size t.size+1:Nat):Int) (List.replicate (max s.size t.size+1) 0) 0 1=q at*
  have M:aa.vs (ofBytes q.1)=aa.vs s+aa.vs t:=J
  rw [bH _ (by omega),dT (show (0:Int)≤((max s.size t.size+1:Nat):Int) by omega),dT (show ((max s.size t.size+1:Nat):Int)≤((max s.size t.size+1:Nat):Int) by omega),dT (show (1:Int)*((max s.size t.size+1:Nat):Int)≤281474976710656 by omega),dT (show ((max s.size t.size+1:Nat):Int)≤9223372036854775807 by omega),dT (show q.1.length≤q.1.length by omega),List.take_length,M] at G
  exact G
 ·cases h
abbrev eJ:List Bool:= [false,true,false,true,true,true]
def dG (s t:ByteArray) (zs:List Int) (c i:Int):List AV:=ar 55 [(0, .val (.string s)),(1, .val (.string t)),(5, .sl false 5 0 0 zs.length),(6, .val (.int .i64 c)),(7, .val (.int .i64 i))]
def dA (s t:ByteArray) (zs:List Int) (c i:Int):Hp:= [.row (.ints .u8 zs) 5 .live]
theorem TZ:aH Tryz.prog 137 eJ=some (.loop (lb 137 eJ)):=by kernel_rfl
theorem VE:aH Tryz.prog 137 (false :: eJ)=some (lb 137 eJ):=by kernel_rfl
theorem Pm (s t:ByteArray) (zs:List Int) (c i:Int):letI G:=(0+((↑s.size:Int) - i).toNat*1);letI I:=(aR s ((↑s.size:Int) - i).toNat - c - aR t ((↑t.size:Int) - i).toNat+256);
  (aO Tryz.prog br 137 [0,1,5,6,7] (lb 137 eJ) (false :: eJ) (dG s t zs c i) (dA s t zs c i)=(bif decide (i≤(↑s.size:Int)) then (bif ai IntKind.i64 ((↑s.size:Int) - i) then (bif decide (0≤(↑s.size:Int) - i)&&decide ((↑s.size:Int) - i < (↑s.size:Int)) then (bif ai IntKind.i64 (aR s ((↑s.size:Int) - i).toNat) then (bif ai IntKind.i64 (aR s ((↑s.size:Int) - i).toNat - c) then (bif decide (i≤(↑t.size:Int)) then (bif ai IntKind.i64 ((↑t.size:Int) - i) then (bif decide (0≤(↑t.size:Int) - i)&&decide ((↑t.size:Int) - i < (↑t.size:Int)) then (bif ai IntKind.i64 (aR t ((↑t.size:Int) - i).toNat) then (bif ai IntKind.i64 (aR s ((↑s.size:Int) - i).toNat - c - aR t ((↑t.size:Int) - i).toNat) then (bif decide (aR s ((↑s.size:Int) - i).toNat - c - aR t ((↑t.size:Int) - i).toNat < 0) then (bif ai IntKind.i64 I then (bif ai IntKind.i64 ((↑s.size:Int) - i) then (bif decide (0≤(↑s.size:Int) - i)&&decide ((↑s.size:Int) - i < (↑zs.length:Int)) then (bif decide (0+((↑s.size:Int) - i).toNat*1 < zs.length) then (bif ai IntKind.i64 (i+1) then some (.normal,ar 55 [(0,(.val (.string s))),(1,(.val (.string t))),(5,(.sl false 5 0 0 zs.length)),(6,(.val (.int .i64 1))),(7,(.val (.int .i64 (i+1))))], [(.row (.ints .u8 (zs.set G (IntKind.u8.wrap I))) 5 .live)]) else none) else none) else none) else none) else none) else (bif ai IntKind.i64 ((↑s.size:Int) - i) then (bif decide (0≤(↑s.size:Int) - i)&&decide ((↑s.size:Int) - i < (↑zs.length:Int)) then (bif decide (0+((↑s.size:Int) - i).toNat*1 < zs.length) then (bif ai IntKind.i64 (i+1) then some (.normal,ar 55 [(0,(.val (.string s))),(1,(.val (.string t))),(5,(.sl false 5 0 0 zs.length)),(6,(.val (.int .i64 0))),(7,(.val (.int .i64 (i+1))))], [(.row (.ints .u8 (zs.set G (IntKind.u8.wrap (aR s ((↑s.size:Int) - i).toNat - c - aR t ((↑t.size:Int) - i).toNat)))) 5 .live)]) else none) else none) else none) else none)) else none) else none) else none) else none) else (bif decide (aR s ((↑s.size:Int) - i).toNat - c < 0) then (bif ai IntKind.i64 (aR s ((↑s.size:Int) - i).toNat - c+256) then (bif ai IntKind.i64 ((↑s.size:Int) - i) then (bif decide (0≤(↑s.size:Int) - i)&&decide ((↑s.size:Int) - i < (↑zs.length:Int)) then (bif decide (0+((↑s.size:Int) - i).toNat*1 < zs.length) then (bif ai IntKind.i64 (i+1) then some (.normal,ar 55 [(0,(.val (.string s))),(1,(.val (.string t))),(5,(.sl false 5 0 0 zs.length)),(6,(.val (.int .i64 1))),(7,(.val (.int .i64 (i+1))))], [(.row (.ints .u8 (zs.set G (IntKind.u8.wrap (aR s ((↑s.size:Int) - i).toNat - c+256)))) 5 .live)]) else none) else none) else none) else none) else none) else (bif ai IntKind.i64 ((↑s.size:Int) - i) then (bif decide (0≤(↑s.size:Int) - i)&&decide ((↑s.size:Int) - i < (↑zs.length:Int)) then (bif decide (0+((↑s.size:Int) - i).toNat*1 < zs.length) then (bif ai IntKind.i64 (i+1) then some (.normal,ar 55 [(0,(.val (.string s))),(1,(.val (.string t))),(5,(.sl false 5 0 0 zs.length)),(6,(.val (.int .i64 0))),(7,(.val (.int .i64 (i+1))))], [(.row (.ints .u8 (zs.set G (IntKind.u8.wrap (aR s ((↑s.size:Int) - i).toNat - c)))) 5 .live)]) else none) else none) else none) else none))) else none) else none) else none) else none) else some ((.exit 0),ar 55 [(0,(.val (.string s))),(1,(.val (.string t))),(5,(.sl false 5 0 0 zs.length)),(6,(.val (.int .i64 c))),(7,(.val (.int .i64 i)))], [(.row (.ints .u8 zs) 5 .live)]))):=by kernel_rfl
theorem Ql {s t:ByteArray} {zs:List Int} {c i:Int} {e:Ex} {T:List AV} {H:Hp} (h:aO Tryz.prog br 137 [0,1,5,6,7] (lb 137 eJ) (false :: eJ) (dG s t zs c i) (dA s t zs c i)=some (e,T,H)):V.Ends Tryz.prog false 0 0 (lb 137 eJ) (dG s t zs c i) (dA s t zs c i) e T H:=
 bF (aJ _) aN mixed VE h
def vO (s t:ByteArray) (zs:List Int) (c i:Int):Prop:=s.size≤8796093022208∧t.size≤8796093022208∧vS t≤vS s∧zs.length=s.size∧c=0∧i=1
def E4 (s t:ByteArray) (zs:List Int) (c i:Int) (r:List Int×Int×Int):Prop:=r.1.length=s.size∧vY r.1=vS s - vS t
theorem aei (s t:ByteArray) (c5:s.size≤8796093022208) (c6:t.size≤8796093022208) (c4:vS t≤vS s) (d:Nat):∀ (i c:Nat) (zs:List Int),i+d=s.size→zs.length=s.size→c≤1→
  dQ (vY (zs.drop (s.size - i))+vS t % 256 ^ i=vS s % 256 ^ i+256 ^ i*c)→
  ∃ r:List Int×Int×Int,av Tryz.prog (lb 137 eJ) (dG s t zs c ((i+1:Nat):Int)) (dA s t zs c ((i+1:Nat):Int)) (.exit 0) (dG s t r.1 r.2.1 r.2.2) (dA s t r.1 r.2.1 r.2.2)∧r.1.length=s.size∧vY r.1=vS s - vS t:=by
 induction d with
 | zero=>
  intro i c zs hi M b5 J
  have b6:i=s.size:=by omega
  refine ⟨(zs,(c:Int),((i+1:Nat):Int)), .last (Ql ?_) (by intro h;cases h),M, ?_⟩
  ·rw [Pm,dF (show ¬ (((i+1:Nat):Int)≤s.size) by omega)]
   rfl
  ·have J:=J.out
   have aE:=lK s
   rw [b6,Nat.sub_self,List.drop_zero,Nat.mod_eq_of_lt aE,Nat.mod_eq_of_lt (show vS t < 256 ^ s.size by omega)] at J
   have a1:vY zs < 256 ^ s.size:=by
    have:=oW (zs.map fun z=>UInt8.ofNat z.toNat)
    rw [List.length_map,M] at this
    exact this
   show vY zs=_
   rcases (show c=0∨c=1 by omega) with ab | ab
   ·rw [ab] at J;omega
   ·rw [ab] at J;omega
 | succ d c0=>
  intro i c zs hi M b5 bD
  have b7:i < s.size:=by omega
  have a7:s.size - (i+1) < zs.length:=by omega
  have go:∀ x y z b:Nat,x < 256→y < 256→x=vS s / 256 ^ i % 256→y=vS t / 256 ^ i % 256→z < 256→b≤1→z+y+c=x+256*b→
    aO Tryz.prog br 137 [0,1,5,6,7] (lb 137 eJ) (false :: eJ) (dG s t zs c ((i+1:Nat):Int)) (dA s t zs c ((i+1:Nat):Int))=some (.normal,dG s t (zs.set (s.size - (i+1)) (z:Nat)) (b:Nat) ((i+1+1:Nat):Int),dA s t (zs.set (s.size - (i+1)) (z:Nat)) (b:Nat) ((i+1+1:Nat):Int))→
    ∃ r:List Int×Int×Int,av Tryz.prog (lb 137 eJ) (dG s t zs c ((i+1:Nat):Int)) (dA s t zs c ((i+1:Nat):Int)) (.exit 0) (dG s t r.1 r.2.1 r.2.2) (dA s t r.1 r.2.1 r.2.2)∧r.1.length=s.size∧vY r.1=vS s - vS t:=by
   intro x y z b c7 dx ex ey ch hb ct G
   obtain ⟨r,aE,a1⟩:=c0 (i+1) b (zs.set (s.size - (i+1)) (z:Nat)) (by omega) (by rw [List.length_set];exact M) hb (by
    have J:=bD.out
    constructor
    rw [Ra _ _ _ a7 ch,M,show s.size - (s.size - (i+1)) - 1=i by omega,show s.size - (i+1)+1=s.size - i by omega,mod_succ,mod_succ,← ex,← ey,Nat.pow_succ]
    have a6:=congrArg (256 ^ i* ·) ct
    simp only [Nat.mul_add] at a6
    rw [← Nat.mul_assoc] at a6
    rw [Nat.mul_comm z]
    omega)
   exact ⟨r, .more (Ql G) aE,a1⟩
  have G:=Pm s t zs c ((i+1:Nat):Int)
  have b3:(s.size:Int) - ((i+1:Nat):Int)=((s.size - (i+1):Nat):Int):=by omega
  have b4:i < t.size→(t.size:Int) - ((i+1:Nat):Int)=((t.size - (i+1):Nat):Int):=fun h=>by omega
  have b2:((i+1:Nat):Int)+1=((i+1+1:Nat):Int):=by omega
  have U:=Nat.mod_lt (vS s / 256 ^ i) (show 0 < 256 by decide)
  have Z:=Nat.mod_lt (vS t / 256 ^ i) (show 0 < 256 by decide)
  have b0:=ym s i b7
  have b1:=ym t i
  have c3:=Eg t i
  generalize vS s / 256 ^ i % 256=x at*
  generalize vS t / 256 ^ i % 256=y at*
  have q1:ai .i64 ((s.size - (i+1):Nat):Int)=true:=bH _ (by omega)
  have q2:ai .i64 ((i+1+1:Nat):Int)=true:=bH _ (by omega)
  rw [b3,b2,q1,q2,dT (show ((i+1:Nat):Int)≤s.size by omega),dT (show (0:Int)≤((s.size - (i+1):Nat):Int) by omega),dT (show ((s.size - (i+1):Nat):Int) < (zs.length:Int) by omega),dT (show ((s.size - (i+1):Nat):Int) < (s.size:Int) by omega),Int.toNat_natCast,Nat.zero_add,Nat.mul_one,dT a7,b0,bH x (by omega),aM (show -9223372036854775808≤(x:Int) - c∧(x:Int) - c≤9223372036854775807 by omega)] at G
  by_cases bx:i < t.size
  ·rw [dT (show ((i+1:Nat):Int)≤t.size by omega),b4 bx,bH (t.size - (i+1)) (by omega),dT (show (0:Int)≤((t.size - (i+1):Nat):Int) by omega),dT (show ((t.size - (i+1):Nat):Int) < (t.size:Int) by omega),Int.toNat_natCast,b1 bx,bH y (by omega),aM (show -9223372036854775808≤(x:Int) - c - y∧(x:Int) - c - y≤9223372036854775807 by omega)] at G
   by_cases O:(x:Int) - c - y < 0
   ·have I:(x:Int) - c - y+256=((x+256 - c - y:Nat):Int):=by omega
    rw [dT O,I,bH _ (by omega),kY,Nat.mod_eq_of_lt (by omega)] at G
    refine go x y (x+256 - c - y) 1 U Z rfl rfl (by omega) (by omega) (by omega) ?_
    rw [G]
    unfold dG dA
    rw [List.length_set]
    rfl
   ·have I:(x:Int) - c - y=((x - c - y:Nat):Int):=by omega
    rw [dF O,I,kY,Nat.mod_eq_of_lt (by omega)] at G
    refine go x y (x - c - y) 0 U Z rfl rfl (by omega) (by omega) (by omega) ?_
    rw [G]
    unfold dG dA
    rw [List.length_set]
    rfl
  ·have dy:=c3 (by omega)
   rw [dF (show ¬ ((i+1:Nat):Int)≤t.size by omega)] at G
   by_cases O:(x:Int) - c < 0
   ·have I:(x:Int) - c+256=((x+256 - c:Nat):Int):=by omega
    rw [dT O,I,bH _ (by omega),kY,Nat.mod_eq_of_lt (by omega)] at G
    refine go x y (x+256 - c) 1 U Z rfl rfl (by omega) (by omega) (by omega) ?_
    rw [G]
    unfold dG dA
    rw [List.length_set]
    rfl
   ·have I:(x:Int) - c=((x - c:Nat):Int):=by omega
    rw [dF O,I,kY,Nat.mod_eq_of_lt (by omega)] at G
    refine go x y (x - c) 0 U Z rfl rfl (by omega) (by omega) (by omega) ?_
    rw [G]
    unfold dG dA
    rw [List.length_set]
    rfl
theorem aa3 (s t:ByteArray) (zs:List Int) (c i:Int) (h:vO s t zs c i):∃ r:List Int×Int×Int,av Tryz.prog (lb 137 eJ) (dG s t zs c i) (dA s t zs c i) (.exit 0) (dG s t r.1 r.2.1 r.2.2) (dA s t r.1 r.2.1 r.2.2)∧E4 s t zs c i r:=by
 obtain ⟨G,I,J,M,rfl,rfl⟩:=h
 obtain ⟨r,k1,O,U⟩:=aei s t G I J s.size 0 0 zs (by omega) M (by omega) ⟨by rw [Nat.sub_zero,List.drop_of_length_le (by omega),Q7];simp [Nat.mod_one]⟩
 exact ⟨r,k1,O,U⟩
def HL (J:ByteArray→ByteArray→List Int→Int→Int→Bool) (G:ByteArray→ByteArray→List Int→Int→Int→List Int×Int×Int) (T:List AV) (H:Hp):Option (Bool×Ex×List AV×Hp):=
 match al T 0,al T 1,al T 5,al T 6,al T 7,H with
 | .val (.string s), .val (.string t), .sl false 5 0 0 I, .val (.int .i64 c), .val (.int .i64 i), [.row (.ints .u8 zs) 5 .live]=>bif T.length==55 then some (decide (I=zs.length)&&J s t zs c i, .exit 0,dG s t ((G s t zs c i).1) ((G s t zs c i).2.1) ((G s t zs c i).2.2),dA s t ((G s t zs c i).1) ((G s t zs c i).2.1) ((G s t zs c i).2.2)) else none
 | _,_,_,_,_,_=>none
abbrev BQ:Type:=ByteArray→ByteArray→List Int→Int→Int→Bool
abbrev Bu:Type:=ByteArray→ByteArray→List Int→Int→Int→List Int×Int×Int
def Kd (G:BQ) (I:Bu) (L:aC):aC:=bp 0 137 eJ [0,1,5,6,7] (HL G I) L
def ku (s t:ByteArray) (zs:List Int) (c i:Int):List Int×Int×Int:=Classical.epsilon fun ρ=>av Tryz.prog (lb 137 eJ) (dG s t zs c i) (dA s t zs c i) (.exit 0) (dG s t (ρ.1) (ρ.2.1) (ρ.2.2)) (dA s t (ρ.1) (ρ.2.1) (ρ.2.2))∧E4 s t zs c i ρ
theorem Oz (s t:ByteArray) (zs:List Int) (c i:Int) (h:vO s t zs c i):av Tryz.prog (lb 137 eJ) (dG s t zs c i) (dA s t zs c i) (.exit 0) (dG s t ((ku s t zs c i).1) ((ku s t zs c i).2.1) ((ku s t zs c i).2.2)) (dA s t ((ku s t zs c i).1) ((ku s t zs c i).2.1) ((ku s t zs c i).2.2))∧E4 s t zs c i (ku s t zs c i):=Classical.epsilon_spec (aa3 s t zs c i h)
def ua (s t:ByteArray) (zs:List Int) (c i:Int):Bool:= @decide (vO s t zs c i) (Classical.propDecidable _)
theorem WB (s t:ByteArray) (zs:List Int) (c i:Int) (h:vO s t zs c i):ua s t zs c i=true:= @decide_eq_true _ (Classical.propDecidable _) h
theorem agF (T:List AV) (H:Hp) (e:Ex) (J:List AV) (I:Hp) (h:HL ua ku T H=some (true,e,J,I)):V.Ends Tryz.prog false 0 0 (.loop (lb 137 eJ)) T H e J I:=by
 unfold HL at h
 split at h
 ·rename_i s t bD c i zs U Z ab aE a1
  rw [Bool.cond_eq_ite] at h
  split at h
  ·rename_i M
   rw [beq_iff_eq] at M
   simp only [Option.some.injEq,Prod.mk.injEq,Bool.and_eq_true,decide_eq_true_eq] at h
   obtain ⟨⟨k1,a7⟩,rfl,rfl,rfl⟩:=h
   have bx:= @of_decide_eq_true _ (Classical.propDecidable _) a7
   refine Ends.pre (Oz s t zs c i bx).1.ends (fun α B w D b0 a6=>bq M (fun p O y G=> ?_) a6)
   simp only [List.mem_cons,List.not_mem_nil,or_false] at O
   rcases O with rfl | rfl | rfl | rfl | rfl
   ·rw [U] at G;exact G
   ·rw [Z] at G;exact G
   ·rw [ab] at G;rw [← k1];exact G
   ·rw [aE] at G;exact G
   ·rw [a1] at G;exact G
  ·cases h
 ·cases h
theorem SC {L:aC} (h:aB Tryz.prog L):aB Tryz.prog (Kd ua ku L):=h.bz TZ agF
def IN (S:Sg) (G:BQ) (I:Bu):Env:= ⟨aw 160 (oV S) aK,au,Kd G I aq⟩
theorem aeh (S:Sg) (I:BQ) (G:Bu) (s t:ByteArray):aF Tryz.prog (IN S I G) 10 10 137 [.val (.string s), .val (.string t)]=
  (bif decide ((↑s.size:Int)≤(↑s.size:Int))&&decide (1*(↑s.size:Int)≤281474976710656)&&decide ((↑s.size:Int)≤9223372036854775807) then (bif decide ((↑s.size:Int).toNat=(List.replicate (↑s.size:Int).toNat (0:Int)).length)&&I s t (List.replicate (↑s.size:Int).toNat (0:Int)) (0:Int) (1:Int) then (bif decide (0+(G s t (List.replicate (↑s.size:Int).toNat (0:Int)) (0:Int) (1:Int)).fst.length*1≤(G s t (List.replicate (↑s.size:Int).toNat (0:Int)) (0:Int) (1:Int)).fst.length) then some (.val (.string (S.mg (S.vs (ofBytes (List.take ((G s t (List.replicate (↑s.size:Int).toNat (0:Int)) (0:Int) (1:Int)).fst.length*1) (List.drop 0 (G s t (List.replicate (↑s.size:Int).toNat (0:Int)) (0:Int) (1:Int)).fst))))))) else none) else none) else none):=by kernel_rfl
def Ax (S:Sg) (args:List AV):Option (Bool×AV):=match args with | [.val (.string s), .val (.string t)]=>some (S.ok s&&S.ok t&&decide (S.vs t≤S.vs s), .val (.string (S.mg (S.vs s - S.vs t)))) | _=>none
theorem LF:Entry Tryz.prog 137 (Ax aa):=by
 refine bg (E:=IN aa ua ku) (u:=10) (d:=10) ((aJ _).add ry) (SC aB.none).ok mixed (by kernel_rfl) (fun args r h=> ?_)
 unfold Ax at h
 split at h
 ·rename_i s t
  simp only [Option.some.injEq,Prod.mk.injEq,Bool.and_eq_true,decide_eq_true_eq] at h
  obtain ⟨⟨⟨O,U⟩,Z⟩,rfl⟩:=h
  have z1:=lx O
  have z2:=lx U
  have I:vO s t (List.replicate s.size 0) 0 1:= ⟨z1,z2,Z,by simp,rfl,rfl⟩
  obtain ⟨_,ab,J⟩:=Oz _ _ _ _ _ I
  have G:=aeh aa ua ku s t
  simp only [Int.toNat_natCast,List.length_replicate,eq_self,decide_true,Nat.mul_one,Nat.zero_add,List.drop_zero] at G
  rw [WB _ _ _ _ _ I] at G
  generalize ku s t (List.replicate s.size 0) 0 1=q at*
  have M:aa.vs (ofBytes q.1)=aa.vs s - aa.vs t:=J
  rw [dT (show (s.size:Int)≤(s.size:Int) by omega),dT (show (1:Int)*(s.size:Int)≤281474976710656 by omega),dT (show (s.size:Int)≤9223372036854775807 by omega),dT (show q.1.length≤q.1.length by omega),List.take_length,M] at G
  exact G
 ·cases h
end
end Go.Proofs.YtamcpiicmfielaaGreat.L
namespace Go.Proofs.YtamcpiicmfielaaGreat.L
open Go Go.V Go.RowKit Go.Proofs.YtamcpiicmfielaaGreat.Sp Go.Proofs.YtamcpiicmfielaaGreat.F Go.Proofs.YtamcpiicmfielaaGreatW.PrintWords
open Go.Proofs (Tryz.prog)
noncomputable section
theorem uO (z:Int):aG (aa.ms z) (ByteArray.mk #[])=decide (z=0):=by
 show aG (aA z.natAbs) _=_
 rw [rP]
 exact decide_eq_decide.2 (by omega)
theorem Nz {zs:List Int} {n:Nat} (h:zs.map (fun z=>UInt8.ofNat z.toNat)=toB n):ofBytes zs=aA n:=by
 apply nY
 rw [pX]
 exact h
def Av (S:Sg) (args:List AV):Option (Bool×AV):=match args with | [.val (.int .i64 z)]=>some (decide (0≤z)&&decide (z≤9223372036854775807), .val (.string (S.mg z.toNat))) | _=>none
theorem Yg:Entry Tryz.prog 159 (Av aa):=by
 refine bg (E:=IJ tW kr) (u:=10) (d:=10) (aJ _) (Sw aB.none).ok mixed (by kernel_rfl) (fun args r h=> ?_)
 unfold Av at h
 split at h
 ·rename_i z
  simp only [Option.some.injEq,Prod.mk.injEq,Bool.and_eq_true,decide_eq_true_eq] at h
  obtain ⟨⟨J,ab⟩,rfl⟩:=h
  obtain ⟨n,rfl⟩:=Int.eq_ofNat_of_zero_le J
  rw [Int.toNat_natCast]
  have G:=adK tW kr (n:Int)
  by_cases M:n < 256
  ·rw [dT (show (n:Int) < 256 by omega)] at G
   by_cases I:n=0
   ·subst I
    rw [dT (show ((0:Nat):Int)=0 from rfl)] at G
    rw [G]
    show _=some (AV.val (.string (aA 0)))
    unfold aA
    rw [toB_zero]
    rfl
   ·rw [dF (show ¬ (n:Int)=0 by omega)] at G
    rw [G]
    show some (AV.val (.string (ofBytes [IntKind.u8.wrap (n:Int)])))=some (AV.val (.string (aA n)))
    rw [Nz (n:=n)]
    rw [toB_pos I,Nat.div_eq_of_lt M,toB_zero,List.nil_append,kY,Nat.mod_eq_of_lt M]
    rfl
  ·have O:vI (n:Int) 8 [0,0,0,0,0,0,0,0]:= ⟨J,ab,rfl,rfl⟩
   obtain ⟨_,k,e1,aE,U,Z⟩:=Ou _ _ _ O
   rw [dF (show ¬ (n:Int) < 256 by omega),Ww _ _ _ O] at G
   generalize kr (n:Int) 8 [0,0,0,0,0,0,0,0]=r at*
   rw [e1,U,dT (show 8≤8 by omega),dT (show (0:Int)≤(k:Int) by omega),dT (show (k:Int)≤8 by omega),Int.toNat_natCast,dT (show 0+k*1+(8 - k)*1≤8 by omega)] at G
   rw [G]
   show some (AV.val (.string (ofBytes _)))=some (AV.val (.string (aA n)))
   rw [Nz (n:=n)]
   rw [Nat.zero_add,Nat.mul_one,Nat.mul_one,List.take_of_length_le (by rw [List.length_drop];omega)]
   exact Z
 ·cases h
theorem adU (S:Sg) (z:Int):aF Tryz.prog ⟨aw 159 (Av S) aK,au,aq⟩ 10 10 124 [.val (.int .i64 z)]=
  (bif decide (0≤z) then (bif decide (0≤z)&&decide (z≤9223372036854775807) then some (.agg [(.val (.bool false)),(.val (.string (S.mg z.toNat)))]) else none) else (bif decide (z=IntKind.i64.wrap (0 - z)) then some (.agg [(.val (.bool true)),(.val (.string (ByteArray.mk #[(128:UInt8),(0:UInt8),(0:UInt8),(0:UInt8),(0:UInt8),(0:UInt8),(0:UInt8),(0:UInt8)])))]) else (bif decide (0≤IntKind.i64.wrap (0 - z))&&decide (IntKind.i64.wrap (0 - z)≤9223372036854775807) then some (.agg [(.val (.bool true)),(.val (.string (S.mg (IntKind.i64.wrap (0 - z)).toNat)))]) else none))):=by kernel_rfl
theorem abr:ByteArray.mk #[(128:UInt8),(0:UInt8),(0:UInt8),(0:UInt8),(0:UInt8),(0:UInt8),(0:UInt8),(0:UInt8)]=aA 9223372036854775808:=
 (uL (ByteArray.mk #[(128:UInt8),(0:UInt8),(0:UInt8),(0:UInt8),(0:UInt8),(0:UInt8),(0:UInt8),(0:UInt8)]) (by show ¬ (128:UInt8)=0;decide)).symm
theorem Zm {z:Int} (h:z < 0):aa.int z= .agg [.val (.bool true), .val (.string (aa.mg z.natAbs))]:=by
 unfold Sg.int
 rw [dm,decide_eq_true h];rfl
theorem uA {z:Int} (h:0≤z):aa.int z= .agg [.val (.bool false), .val (.string (aa.mg z.natAbs))]:=by
 unfold Sg.int
 rw [dm,decide_eq_false (by omega)];rfl
theorem uk:Entry Tryz.prog 124 (kW aa):=by
 refine bg (E:= ⟨aw 159 (Av aa) aK,au,aq⟩) (u:=10) (d:=10) ((aJ _).add Yg) aN mixed (by kernel_rfl) (fun args r h=> ?_)
 unfold kW at h
 split at h
 ·rename_i z
  simp only [Option.some.injEq,Prod.mk.injEq] at h
  obtain ⟨J,rfl⟩:=h
  unfold cW at J
  simp only [Bool.and_eq_true,decide_eq_true_eq] at J
  have G:=adU aa z
  by_cases I:0≤z
  ·rw [dT I,dT J.2] at G
   rw [G,uA I,show z.toNat=z.natAbs by omega]
   rfl
  ·rw [dF I] at G
   rw [Zm (by omega)]
   by_cases M:z= -9223372036854775808
   ·subst M
    rw [dT (show (-9223372036854775808:Int)=IntKind.i64.wrap (0 - -9223372036854775808) by rw [IntKind.wrap_i64];decide)] at G
    rw [G,abr]
    rfl
   ·have O:IntKind.i64.wrap (0 - z)= -z:=by rw [IntKind.wrap_i64];omega
    rw [O,dF (show ¬ z= -z by omega),dT (show 0≤ -z by omega),dT (show -z≤9223372036854775807 by omega)] at G
    rw [G,show (-z).toNat=z.natAbs by omega]
    rfl
 ·cases h
theorem abw (z:Int):aa.ms (-z)=aa.ms z:=by
 show aA (-z).natAbs=aA z.natAbs
 rw [Int.natAbs_neg]
theorem Df:Entry Tryz.prog 127 (lH aa):=by
 refine bg (E:= ⟨aw 130 (oS aa) aK,au,aq⟩) (u:=10) (d:=10) ((aJ _).add uj) aN mixed (by kernel_rfl) (fun args r h=> ?_)
 unfold lH at h
 split at h
 ·rename_i b s
  simp only [Option.some.injEq,Prod.mk.injEq] at h
  obtain ⟨M,rfl⟩:=h
  have J:=adT aa b s
  generalize aa.val b s=z at*
  rw [uO,dm] at J
  rw [J]
  unfold Sg.int
  rw [abw,dm]
  by_cases G:z < 0
  ·rw [dT G,dF (show ¬ -z < 0 by omega)];rfl
  ·rw [dF G]
   by_cases I:z=0
   ·rw [dT I,dF (show ¬ -z < 0 by omega)];rfl
   ·rw [dF I,dT (show -z < 0 by omega)];rfl
 ·cases h
end
end Go.Proofs.YtamcpiicmfielaaGreat.L
namespace Go.Proofs.YtamcpiicmfielaaGreat.L
open Go Go.V Go.RowKit Go.Proofs.YtamcpiicmfielaaGreat.Sp Go.Proofs.YtamcpiicmfielaaGreat.F Go.Proofs.YtamcpiicmfielaaGreatW.PrintWords
open Go.Proofs (Tryz.prog)
noncomputable section
theorem MW:∀ (l m:List UInt8),l.length=m.length→(Op.bytesLess l m=true↔vB l < vB m)
 | [], [],_=>by simp [Op.bytesLess]
 | [],_ :: _,h=>by simp at h
 | _ :: _, [],h=>by simp at h
 | a :: x,b :: y,h=>by
  have J:x.length=y.length:=by simpa using h
  have Z:=MW x y J
  have U:=oW x
  have ab:=oW y
  rw [lJ,lJ,J]
  rw [J] at U
  unfold Op.bytesLess
  rw [Bool.or_eq_true,Bool.and_eq_true,decide_eq_true_eq,beq_iff_eq,Z]
  have M:a < b↔a.toNat < b.toNat:=UInt8.lt_iff_toNat_lt
  have O:a=b↔a.toNat=b.toNat:= ⟨fun h=>h ▸ rfl,fun h=>UInt8.toNat_inj.1 h⟩
  rw [M,O]
  generalize 256 ^ y.length=B at*
  generalize a.toNat=p at*
  generalize b.toNat=q at*
  constructor
  ·rintro (I | ⟨I,G⟩)
   ·have:=Nat.mul_le_mul_right B (show p+1≤q by omega)
    rw [Nat.add_mul] at this
    omega
   ·subst I;omega
  ·intro I
   rcases Nat.lt_trichotomy p q with G | G | G
   ·exact Or.inl G
   ·subst G;exact Or.inr ⟨rfl,by omega⟩
   ·have:=Nat.mul_le_mul_right B (show q+1≤p by omega)
    rw [Nat.add_mul] at this
    omega
def wJ (S:Sg) (args:List AV):Option (Bool×AV):=match args with | [.val (.string s), .val (.string t)]=>some (aG s (S.mg (S.vs s))&&aG t (S.mg (S.vs t)), .val (.int .i64 (S.cmp (S.vs s) (S.vs t)))) | _=>none
theorem Ni {n m:Nat} (h:(aA n).size < (aA m).size):n < m:=by
 rw [lF,lF] at h
 rcases Nat.lt_or_ge n m with G | G
 ·exact G
 ·have:=dI G
  unfold bs at this
  omega
theorem De:Entry Tryz.prog 133 (wJ aa):=by
 refine bg (E:=nQ) (u:=10) (d:=10) (aJ _) aN mixed (by kernel_rfl) (fun args r h=> ?_)
 unfold wJ at h
 split at h
 ·rename_i s t
  simp only [Option.some.injEq,Prod.mk.injEq,Bool.and_eq_true] at h
  obtain ⟨⟨I,J⟩,rfl⟩:=h
  rw [oQ] at I J
  have I:s=aA (vS s):=of_decide_eq_true I
  have J:t=aA (vS t):=of_decide_eq_true J
  have U:=adf s t
  show _=some (AV.val (.int .i64 (cz (vS s) (vS t))))
  rw [U]
  generalize vS s=n at*
  generalize vS t=m at*
  subst I J
  by_cases O:((aA n).size:Int)=((aA m).size:Int)
  ·rw [dT O]
   have ab:(toB n).length=(toB m).length:=by rw [← lF,← lF];omega
   have aE:V.strLt (aA n) (aA m)=decide (n < m):=by
    rw [Bool.eq_iff_iff]
    show Op.bytesLess (aA n).data.toList (aA m).data.toList=true↔_
    rw [pX,pX,MW _ _ ab,AK,AK,decide_eq_true_eq]
   have Z:aG (aA n) (aA m)=decide (n=m):=by
    rw [oQ]
    refine decide_eq_decide.2 ⟨fun h=> ?_,fun h=>h ▸ rfl⟩
    have:=congrArg vS h
    rw [jC,jC] at this
    exact this
   rw [aE,Z]
   unfold cz
   by_cases G:n < m
   ·rw [dT G,if_pos G];rfl
   ·rw [dF G,if_neg G]
    by_cases M:n=m
    ·rw [dT M,if_neg (by omega)];rfl
    ·rw [dF M,if_pos (by omega)];rfl
  ·rw [dF O]
   unfold cz
   by_cases G:((aA n).size:Int) < ((aA m).size:Int)
   ·rw [dT G,if_pos (Ni (by omega))];rfl
   ·rw [dF G]
    have M:m < n:=Ni (by omega)
    rw [if_neg (by omega),if_pos M];rfl
 ·cases h
def Iw (S:Sg):FuncId→List AV→Option (Bool×AV):=aw 130 (oS S) (aw 133 (wJ S) aK)
def A1 (S:Sg):FuncId→List AV→Option (Bool×AV):=aw 130 (oS S) (aw 133 (wJ S) (aw 136 (As S) (aw 137 (Ax S) (aw 131 (Ay S) (aw 124 (kW S) aK)))))
theorem adb (S:Sg) (b c:Bool) (s t:ByteArray):aF Tryz.prog ⟨Iw S,au,aq⟩ 10 10 97 [.agg [.val (.bool b), .val (.string s)], .agg [.val (.bool c), .val (.string t)]]=
  (bif bif true then !S.ng (S.val b s)==S.ng (S.val c t) else S.ng (S.val b s)==S.ng (S.val c t) then (bif S.ng (S.val b s) then some (.val (.int .i64 (-1))) else some (.val (.int .i64 1))) else (bif S.ng (S.val b s) then (bif aG (S.ms (S.val c t)) (S.mg (S.vs (S.ms (S.val c t))))&&aG (S.ms (S.val b s)) (S.mg (S.vs (S.ms (S.val b s)))) then some (.val (.int .i64 (S.cmp (S.vs (S.ms (S.val c t))) (S.vs (S.ms (S.val b s)))))) else none) else (bif aG (S.ms (S.val b s)) (S.mg (S.vs (S.ms (S.val b s))))&&aG (S.ms (S.val c t)) (S.mg (S.vs (S.ms (S.val c t)))) then some (.val (.int .i64 (S.cmp (S.vs (S.ms (S.val b s))) (S.vs (S.ms (S.val c t)))))) else none))):=by kernel_rfl
theorem ac3 (S:Sg) (b c:Bool) (s t:ByteArray):letI I:Option AV:=(bif bif false then !S.ng (S.val b s)==S.ng (S.val c t) else S.ng (S.val b s)==S.ng (S.val c t) then (bif S.ok (S.ms (S.val b s))&&S.ok (S.ms (S.val c t)) then some (.agg [(.val (.bool (S.ng (S.val b s)))),(.val (.string (S.mg (S.vs (S.ms (S.val b s))+S.vs (S.ms (S.val c t))))))]) else none) else (bif aG (S.ms (S.val b s)) (S.mg (S.vs (S.ms (S.val b s))))&&aG (S.ms (S.val c t)) (S.mg (S.vs (S.ms (S.val c t)))) then (bif decide (S.cmp (S.vs (S.ms (S.val b s))) (S.vs (S.ms (S.val c t)))=0) then some (.agg [(.val (.bool false)),(.val (.string (ByteArray.mk #[])))]) else (bif decide (0 < S.cmp (S.vs (S.ms (S.val b s))) (S.vs (S.ms (S.val c t)))) then (bif S.ok (S.ms (S.val b s))&&S.ok (S.ms (S.val c t))&&decide (S.vs (S.ms (S.val c t))≤S.vs (S.ms (S.val b s))) then some (.agg [(.val (.bool (S.ng (S.val b s)))),(.val (.string (S.mg (S.vs (S.ms (S.val b s)) - S.vs (S.ms (S.val c t))))))]) else none) else (bif S.ok (S.ms (S.val c t))&&S.ok (S.ms (S.val b s))&&decide (S.vs (S.ms (S.val b s))≤S.vs (S.ms (S.val c t))) then some (.agg [(.val (.bool (S.ng (S.val c t)))),(.val (.string (S.mg (S.vs (S.ms (S.val c t)) - S.vs (S.ms (S.val b s))))))]) else none))) else none));letI G:=(S.val (S.ng (S.val b s)) (S.ms (S.val b s))+S.val (S.ng (S.val c t)) (S.ms (S.val c t)));
  (aF Tryz.prog ⟨A1 S,au,aq⟩ 10 10 102 [.agg [.val (.bool b), .val (.string s)], .agg [.val (.bool c), .val (.string t)]]=(bif decide ((↑(S.ms (S.val b s)).size:Int) < 8) then (bif decide ((↑(S.ms (S.val c t)).size:Int) < 8) then (bif decide ((S.ms (S.val b s)).size≤8)&&decide (S.vs (S.ms (S.val b s)) < 9223372036854775808) then (bif decide ((S.ms (S.val c t)).size≤8)&&decide (S.vs (S.ms (S.val c t)) < 9223372036854775808) then (bif ai IntKind.i64 G then (bif cW G then some (.agg [(.val (.bool (S.ng G))),(.val (.string (S.ms G)))]) else none) else none) else none) else none) else I) else I)):=by kernel_rfl
theorem aeg (S:Sg) (b c:Bool) (s t:ByteArray):aF Tryz.prog ⟨aw 102 (kV S) (aw 127 (lH S) aK),au,aq⟩ 10 10 163 [.agg [.val (.bool b), .val (.string s)], .agg [.val (.bool c), .val (.string t)]]=
  (bif S.ok t then (bif S.ok s&&S.ok (S.ms (-S.val c t)) then some (.agg [(.val (.bool (S.ng (S.val b s+S.val (S.ng (-S.val c t)) (S.ms (-S.val c t)))))),(.val (.string (S.ms (S.val b s+S.val (S.ng (-S.val c t)) (S.ms (-S.val c t))))))]) else none) else none):=by kernel_rfl
theorem KR (z:Int):aG (aa.ms z) (aa.mg z.natAbs)=true:=lG _
theorem uP {x y:Int} (h:x < 0↔y < 0):(aa.ng x==aa.ng y)=true:=by
 rw [dm,dm,decide_eq_decide.2 h,beq_self_eq_true]
theorem uQ {x y:Int} (h:¬ (x < 0↔y < 0)):(aa.ng x==aa.ng y)=false:=by
 rw [dm,dm]
 by_cases G:x < 0 <;> by_cases I:y < 0
 ·exact absurd ⟨fun _=>I,fun _=>G⟩ h
 ·rw [dT G,dF I];rfl
 ·rw [dF G,dT I];rfl
 ·exact absurd ⟨fun k=>absurd k G,fun k=>absurd k I⟩ h
theorem int_eq {z:Int} {b:Bool} {n:Nat} (hb:b=decide (z < 0)) (G:n=z.natAbs):AV.agg [.val (.bool b), .val (.string (aa.mg n))]=aa.int z:=by
 unfold Sg.int
 rw [dm,hb,G];rfl
theorem rS {x z:Int} (h:x < 0↔z < 0):aa.ng x=decide (z < 0):=by rw [dm];exact decide_eq_decide.2 h
theorem xM (a b:Nat):aa.cmp a b=0↔a=b:=by
 show cz a b=0↔_
 unfold cz
 split <;> (try split) <;> omega
theorem xN (a b:Nat):0 < aa.cmp a b↔b < a:=by
 show 0 < cz a b↔_
 unfold cz
 split <;> (try split) <;> omega
theorem Ly:Entry Tryz.prog 97 (oT aa):=by
 refine bg (E:= ⟨Iw aa,au,aq⟩) (u:=10) (d:=10) (((aJ _).add De).add uj) aN mixed (by kernel_rfl) (fun args r h=> ?_)
 unfold oT at h
 split at h
 ·rename_i b s c t
  simp only [Option.some.injEq,Prod.mk.injEq] at h
  obtain ⟨M,rfl⟩:=h
  have I:=adb aa b c s t
  generalize aa.val b s=x at*
  generalize aa.val c t=y at*
  simp only [wQ,KR] at I
  rw [I]
  by_cases J:x < 0↔y < 0
  ·rw [uP J]
   by_cases G:x < 0
   ·rw [dm x,dT G]
    refine congrArg (fun z=>some (AV.val (.int .i64 z))) ?_
    show cz y.natAbs x.natAbs=cR x y
    unfold cz cR
    split <;> split <;> (try split) <;> (try split) <;> omega
   ·rw [dm x,dF G]
    refine congrArg (fun z=>some (AV.val (.int .i64 z))) ?_
    show cz x.natAbs y.natAbs=cR x y
    unfold cz cR
    split <;> split <;> (try split) <;> (try split) <;> omega
  ·rw [uQ J]
   by_cases G:x < 0
   ·rw [dm x,dT G]
    refine congrArg (fun z=>some (AV.val (.int .i64 z))) ?_
    show -1=cR x y
    unfold cR
    split <;> (try split) <;> omega
   ·rw [dm x,dF G]
    refine congrArg (fun z=>some (AV.val (.int .i64 z))) ?_
    show 1=cR x y
    unfold cR
    split <;> (try split) <;> omega
 ·cases h
theorem wy {n:Nat} (h:bs n < 8):n < 72057594037927936:=
 Nat.lt_of_lt_of_le (nX n) (show 256 ^ bs n≤256 ^ 7 from Nat.pow_le_pow_right (by decide) (by omega))
theorem Rv:bf Tryz.prog (A1 aa):=((((((aJ _).add uk).add LG).add LF).add Lx).add De).add uj
theorem Dc:Entry Tryz.prog 102 (kV aa):=by
 refine bg (E:= ⟨A1 aa,au,aq⟩) (u:=10) (d:=10) Rv aN mixed (by kernel_rfl) (fun args r h=> ?_)
 unfold kV at h
 split at h
 ·rename_i b s c t
  simp only [Option.some.injEq,Prod.mk.injEq,Bool.and_eq_true] at h
  obtain ⟨⟨a1,a6⟩,rfl⟩:=h
  have M:=ac3 aa b c s t
  have U:=Nat.le_trans (dK b s) (lx a1)
  have Z:=Nat.le_trans (dK c t) (lx a6)
  generalize aa.val b s=x at*
  generalize aa.val c t=y at*
  simp only [wQ,KR,wv,eX] at M
  rw [bW U,bW Z] at M
  rw [M]
  clear M
  by_cases bx:(bs x.natAbs:Int) < 8∧(bs y.natAbs:Int) < 8
  ·obtain ⟨ab,aE⟩:=bx
   have k1:=wy (show bs x.natAbs < 8 by omega)
   have bD:=wy (show bs y.natAbs < 8 by omega)
   rw [dT ab,dT aE,dT (show bs x.natAbs≤8 by omega),dT (show bs y.natAbs≤8 by omega),dT (show x.natAbs < 9223372036854775808 by omega),dT (show y.natAbs < 9223372036854775808 by omega),aM (show -9223372036854775808≤x+y∧x+y≤9223372036854775807 by omega)]
   unfold cW
   rw [dT (show -9223372036854775808≤x+y by omega),dT (show x+y≤9223372036854775807 by omega)]
   rfl
  ·have h':¬ ((bs x.natAbs:Int) < 8)∨((bs x.natAbs:Int) < 8∧¬ (bs y.natAbs:Int) < 8):=by omega
   rcases h' with O | ⟨O,a7⟩
   ·rw [dF O]
    by_cases J:x < 0↔y < 0
    ·rw [uP J]
     exact congrArg some (int_eq (rS (by omega)) (by omega))
    ·rw [uQ J]
     by_cases G:x.natAbs=y.natAbs
     ·rw [dT ((xM _ _).2 G),show x+y=0 by omega]
      unfold Sg.int
      rw [lY]
      rfl
     ·rw [dF (fun h=>G ((xM _ _).1 h))]
      by_cases I:y.natAbs < x.natAbs
      ·rw [dT ((xN _ _).2 I),dT (show y.natAbs≤x.natAbs by omega)]
       exact congrArg some (int_eq (rS (by omega)) (by omega))
      ·rw [dF (fun h=>I ((xN _ _).1 h)),dT (show x.natAbs≤y.natAbs by omega)]
       exact congrArg some (int_eq (rS (by omega)) (by omega))
   ·rw [dT O,dF a7]
    by_cases J:x < 0↔y < 0
    ·rw [uP J]
     exact congrArg some (int_eq (rS (by omega)) (by omega))
    ·rw [uQ J]
     by_cases G:x.natAbs=y.natAbs
     ·rw [dT ((xM _ _).2 G),show x+y=0 by omega]
      unfold Sg.int
      rw [lY]
      rfl
     ·rw [dF (fun h=>G ((xM _ _).1 h))]
      by_cases I:y.natAbs < x.natAbs
      ·rw [dT ((xN _ _).2 I),dT (show y.natAbs≤x.natAbs by omega)]
       exact congrArg some (int_eq (rS (by omega)) (by omega))
      ·rw [dF (fun h=>I ((xN _ _).1 h)),dT (show x.natAbs≤y.natAbs by omega)]
       exact congrArg some (int_eq (rS (by omega)) (by omega))
 ·cases h
theorem Yk:Entry Tryz.prog 163 (sS aa):=by
 refine bg (E:= ⟨aw 102 (kV aa) (aw 127 (lH aa) aK),au,aq⟩) (u:=10) (d:=10) (((aJ _).add Df).add Dc) aN mixed (by kernel_rfl) (fun args r h=> ?_)
 unfold sS at h
 split at h
 ·rename_i b s c t
  simp only [Option.some.injEq,Prod.mk.injEq,Bool.and_eq_true] at h
  obtain ⟨⟨M,I⟩,rfl⟩:=h
  have G:=aeg aa b c s t
  have J:=Nat.le_trans (dK c t) (lx I)
  simp only [eX] at G
  rw [M,I,bW (z:= -aa.val c t) (by rw [Int.natAbs_neg];exact J)] at G
  rw [G,Int.sub_eq_add_neg]
  rfl
 ·cases h
end
end Go.Proofs.YtamcpiicmfielaaGreat.L
namespace Go.Proofs.YtamcpiicmfielaaGreat.L
open Go Go.V Go.RowKit Go.Proofs.YtamcpiicmfielaaGreat.Sp Go.Proofs.YtamcpiicmfielaaGreat.F Go.Proofs.YtamcpiicmfielaaGreatW.PrintWords
open Go.Proofs (Tryz.prog)
noncomputable section
abbrev gv:List Bool:= [false,true,false,true,false,false,true,false,false,true,false,true,true]
def jt (s t:ByteArray) (zs:List Int) (i c j:Int):List AV:=ar 87 [(0, .val (.string s)),(1, .val (.string t)),(5, .sl false 3 0 0 zs.length),(6, .val (.int .i64 i)),(7, .val (.int .i64 c)),(8, .val (.int .i64 j))]
def iU (s t:ByteArray) (zs:List Int) (i c j:Int):Hp:= [.row (.ints .i64 zs) 3 .live]
theorem TW:aH Tryz.prog 132 gv=some (.loop (lb 132 gv)):=by kernel_rfl
theorem VB:aH Tryz.prog 132 (false :: gv)=some (lb 132 gv):=by kernel_rfl
theorem Ph (s t:ByteArray) (zs:List Int) (i c j:Int):letI G:=(zs.getD (0+(i+j+1).toNat*1) 0+aR s i.toNat*aR t j.toNat);
  (aO Tryz.prog br 132 [0,1,5,6,7,8] (lb 132 gv) (false :: gv) (jt s t zs i c j) (iU s t zs i c j)=(bif decide (0≤j) then (bif ai IntKind.i64 (i+j) then (bif ai IntKind.i64 (i+j+1) then (bif decide (0≤i+j+1)&&decide (i+j+1 < (↑zs.length:Int)) then (bif decide (0+(i+j+1).toNat*1 < zs.length) then (bif decide (0≤i)&&decide (i < (↑s.size:Int)) then (bif ai IntKind.i64 (aR s i.toNat) then (bif decide (0≤j)&&decide (j < (↑t.size:Int)) then (bif ai IntKind.i64 (aR t j.toNat) then (bif ai IntKind.i64 (aR s i.toNat*aR t j.toNat) then (bif ai IntKind.i64 G then (bif ai IntKind.i64 (c+G) then (bif ai IntKind.i64 (i+j) then (bif ai IntKind.i64 (i+j+1) then (bif decide (0≤i+j+1)&&decide (i+j+1 < (↑zs.length:Int)) then (bif decide (0+(i+j+1).toNat*1 < zs.length) then (bif ai IntKind.i64 (j - 1) then some (.normal,ar 87 [(0,(.val (.string s))),(1,(.val (.string t))),(5,(.sl false 3 0 0 zs.length)),(6,(.val (.int .i64 i))),(7,(.val (.int .i64 ((c+G).fdiv (256:Int))))),(8,(.val (.int .i64 (j - 1))))], [(.row (.ints .i64 (zs.set (0+(i+j+1).toNat*1) (cm BinOp.and IntKind.i64 (c+G) (255:Int)))) 3 .live)]) else none) else none) else none) else none) else none) else none) else none) else none) else none) else none) else none) else none) else none) else none) else none) else none) else some ((.exit 2),ar 87 [(0,(.val (.string s))),(1,(.val (.string t))),(5,(.sl false 3 0 0 zs.length)),(6,(.val (.int .i64 i))),(7,(.val (.int .i64 c))),(8,(.val (.int .i64 j)))], [(.row (.ints .i64 zs) 3 .live)]))):=by kernel_rfl
theorem Qi {s t:ByteArray} {zs:List Int} {i c j:Int} {e:Ex} {T:List AV} {H:Hp} (h:aO Tryz.prog br 132 [0,1,5,6,7,8] (lb 132 gv) (false :: gv) (jt s t zs i c j) (iU s t zs i c j)=some (e,T,H)):V.Ends Tryz.prog false 0 0 (lb 132 gv) (jt s t zs i c j) (iU s t zs i c j) e T H:=
 bF (aJ _) aN mixed VB h
def ke (zs:List Int):Prop:=∀ z ∈ zs,0≤z∧z < 256
theorem NI {zs:List Int} (h:ke zs) (p x:Nat) (J:x < 256):ke (zs.set p (x:Int)):=by
 intro z I
 rcases List.mem_or_eq_of_mem_set I with G | G
 ·exact h z G
 ·subst G;omega
theorem Mf {l:List Int} (h:ke l) (i:Nat) (hi:i < l.length):∃ a:Nat,a < 256∧l[i]? =some (a:Int)∧l.getD i 0=(a:Int):=by
 have G:=h l[i] (List.getElem_mem hi)
 obtain ⟨a,ha⟩:=Int.eq_ofNat_of_zero_le G.1
 refine ⟨a,by omega, ?_, ?_⟩
 ·rw [List.getElem?_eq_getElem hi,ha]
 ·rw [List.getD_eq_getElem?_getD,List.getElem?_eq_getElem hi,ha];rfl
theorem sY (a:Int) (l:List Int):vY (a :: l)=(UInt8.ofNat a.toNat).toNat*256 ^ l.length+vY l:=by
 unfold vY
 rw [List.map_cons,lJ,List.length_map]
theorem Q2 {a:Nat} (h:a < 256):(UInt8.ofNat ((a:Int)).toNat).toNat=a:=by
 rw [Int.toNat_natCast,UInt8.toNat_ofNat'];omega
theorem Q8 (z x:Nat) (I:z < 256) (G:x < 256):∀ (l:List Int) (q:Nat),l[q]? =some (z:Int)→vY (l.set q (x:Int))+z*256 ^ (l.length - q - 1)=vY l+x*256 ^ (l.length - q - 1)
 | [],q,h=>by simp at h
 | a :: l,0,h=>by
  have ha:a=(z:Int):=by simpa using h
  subst ha
  rw [List.set_cons_zero,sY,sY,Q2 I,Q2 G]
  simp only [List.length_cons,Nat.sub_zero,Nat.add_sub_cancel]
  omega
 | a :: l,q+1,h=>by
  have J:=Q8 z x I G l q (by simpa using h)
  rw [List.set_cons_succ,sY,sY,List.length_set]
  have e:(a :: l).length - (q+1) - 1=l.length - q - 1:=by simp only [List.length_cons];omega
  rw [e]
  omega
theorem Q9 (z x:Nat) (I:z < 256) (G:x < 256) (l:List Int) (p k:Nat) (J:k≤p) (h:l[p]? =some (z:Int)):vY ((l.set p (x:Int)).drop k)+z*256 ^ (l.length - p - 1)=vY (l.drop k)+x*256 ^ (l.length - p - 1):=by
 have e:(l.set p (x:Int)).drop k=(l.drop k).set (p - k) (x:Int):=by
  rw [List.drop_set,if_neg (by omega)]
 have:=Q8 z x I G (l.drop k) (p - k) (by rw [List.getElem?_drop,show k+(p - k)=p by omega];exact h)
 rw [List.length_drop,show l.length - k - (p - k) - 1=l.length - p - 1 by omega] at this
 rw [e];exact this
theorem S3 (v:Nat) (h:v < 65536):cm .and .i64 (v:Int) 255=((v % 256:Nat):Int):=by
 have e:Go.bits .and .i64 (v:Int) (2 ^ 8 - 1)=(v:Int) % 2 ^ 8:=bits_mask .i64 63 (by decide) (fun n I J=>by rw [IntKind.wrap_i64];omega) 8 (by decide) (v:Int) (by omega) (by omega)
 have G:cm .and .i64 (v:Int) 255=(v:Int) % 256:=e
 rw [G];omega
theorem adO {A G P v z c x y Y:Nat} (O:G+z*P=A+v % 256*P) (I:v=c+(z+x*y)):G+v / 256*(256*P)+x*Y*(256*P)=A+c*P+x*(Y*256+y)*P:=by
 have e:v % 256*P+v / 256*(256*P)=v*P:=by
  rw [← Nat.mul_assoc,← Nat.add_mul,Nat.mul_comm (v / 256),Nat.mod_add_div]
 have J:v*P=c*P+z*P+x*y*P:=by rw [I,Nat.add_mul,Nat.add_mul,Nat.add_assoc]
 have M:x*(Y*256+y)*P=x*Y*(256*P)+x*y*P:=by grind
 omega
theorem adN (s t:ByteArray) (c6:s.size≤8796093022208) (c7:t.size≤8796093022208) (i:Nat) (hi:i < s.size) (x:Nat) (dx:x < 256) (ct:aR s i=(x:Int)) (d:Nat):∀ (c:Nat) (zs:List Int),d≤t.size→zs.length=s.size+t.size→ke zs→c < 256→
  ∃ r:List Int×Int×Int,av Tryz.prog (lb 132 gv) (jt s t zs i c ((d:Int) - 1)) (iU s t zs i c ((d:Int) - 1)) (.exit 2) (jt s t r.1 i r.2.1 r.2.2) (iU s t r.1 i r.2.1 r.2.2)∧r.1.length=s.size+t.size∧ke r.1∧(∀ k:Nat,k≤i→r.1[k]? =zs[k]?)∧
   ∃ G:Nat,r.2.1=(G:Int)∧G < 256∧vY (r.1.drop (i+1))+G*256 ^ (s.size+t.size - (i+1))=vY (zs.drop (i+1))+c*256 ^ (s.size+t.size - (i+d+1))+x*vB (t.data.toList.take d)*256 ^ (s.size+t.size - (i+d+1)):=by
 induction d with
 | zero=>
  intro c zs b3 I J U
  refine ⟨(zs,(c:Int),((0:Nat):Int) - 1), .last (Qi ?_) (by intro h;cases h),I,J,fun _ _=>rfl,c,rfl,U, ?_⟩
  ·rw [Ph,dF (show ¬ (0:Int)≤((0:Nat):Int) - 1 by decide)];rfl
  ·rw [List.take_zero]
   show _=_+_+x*0*_
   rw [Nat.mul_zero,Nat.zero_mul];rfl
 | succ d c5=>
  intro c zs b3 I J U
  obtain ⟨z,c0,c3,c4⟩:=Mf J (i+d+1) (by omega)
  have hb:=lQ t d
  obtain ⟨y,O⟩:∃ y:Nat,aR t d=y:= ⟨(aR t d).toNat,by omega⟩
  rw [O] at hb
  have dy:x*y≤255*255:=Nat.mul_le_mul (by omega) (by omega)
  have ch:c+(z+x*y) < 65536:=by omega
  obtain ⟨r,a6,a7,bx,bD,G,b0,b1,b2⟩:=c5 ((c+(z+x*y)) / 256) (zs.set (i+d+1) (((c+(z+x*y)) % 256:Nat):Int)) (by omega) (by rw [List.length_set];exact I) (NI J _ _ (Nat.mod_lt _ (by decide))) (by omega)
  refine ⟨r, .more (Qi ?_) a6,a7,bx, ?_,G,b0,b1, ?_⟩
  ·have M:=Ph s t zs i c (d:Int)
   have ab:((i:Int)+(d:Int)+1)=((i+d+1:Nat):Int):=by omega
   rw [ab,Int.toNat_natCast,Int.toNat_natCast,Int.toNat_natCast,Nat.zero_add,Nat.mul_one,c4,ct,O] at M
   have aE:((c:Int)+((z:Int)+(x:Int)*(y:Int)))=((c+(z+x*y):Nat):Int):=by rw [Int.natCast_add,Int.natCast_add,Int.natCast_mul]
   have a1:(x:Int)*(y:Int)=((x*y:Nat):Int):=(Int.natCast_mul x y).symm
   rw [aE,S3 _ ch,uv,a1,← Int.natCast_add z (x*y),bH (x*y) (by omega),bH (z+x*y) (by omega),bH (c+(z+x*y)) (by omega),bH x (by omega),bH y (by omega),← Int.natCast_add i d,bH (i+d) (by omega),bH (i+d+1) (by omega),dT (show (0:Int)≤(d:Int) by omega),dT (show (0:Int)≤((i+d+1:Nat):Int) by omega),dT (show ((i+d+1:Nat):Int) < (zs.length:Int) by omega),dT (show i+d+1 < zs.length by omega),dT (show (0:Int)≤(i:Int) by omega),dT (show (i:Int) < (s.size:Int) by omega),dT (show (d:Int) < (t.size:Int) by omega),aM (show -9223372036854775808≤(d:Int) - 1∧(d:Int) - 1≤9223372036854775807 by omega)] at M
   rw [show ((d+1:Nat):Int) - 1=(d:Int) by omega,M]
   unfold jt iU
   rw [List.length_set]
   rfl
  ·intro k b4
   rw [bD k b4,List.getElem?_set_ne (by omega)]
  ·have Z:=Q9 z ((c+(z+x*y)) % 256) c0 (Nat.mod_lt _ (by decide)) zs (i+d+1) (i+1) (by omega) c3
   have b6:=qP t d (by omega)
   rw [O] at b6
   have b7:vB (t.data.toList.take (d+1))=vB (t.data.toList.take d)*256+y:=by omega
   have b5:256 ^ (s.size+t.size - (i+d+1))=256*256 ^ (s.size+t.size - (i+(d+1)+1)):=by
    rw [show s.size+t.size - (i+d+1)=(s.size+t.size - (i+(d+1)+1))+1 by omega,Nat.pow_succ,Nat.mul_comm]
   rw [b2,b5,b7]
   rw [I,show s.size+t.size - (i+d+1) - 1=s.size+t.size - (i+(d+1)+1) by omega] at Z
   exact adO Z rfl
def vK (s t:ByteArray) (zs:List Int) (i c j:Int):Prop:=s.size≤8796093022208∧t.size≤8796093022208∧(∃ k:Nat,i=(k:Int)∧k < s.size)∧zs.length=s.size+t.size∧ke zs∧c=0∧j=(t.size:Int) - 1
def zB (s t:ByteArray) (zs:List Int) (i c j:Int) (r:List Int×Int×Int):Prop:=r.1.length=s.size+t.size∧ke r.1∧(∀ k:Nat,k≤i.toNat→r.1[k]? =zs[k]?)∧
 ∃ G:Nat,r.2.1=(G:Int)∧G < 256∧vY (r.1.drop (i.toNat+1))+G*256 ^ (s.size+t.size - (i.toNat+1))=vY (zs.drop (i.toNat+1))+(aR s i.toNat).toNat*vS t*256 ^ (s.size+t.size - (i.toNat+t.size+1))
theorem aa0 (s t:ByteArray) (zs:List Int) (i c j:Int) (h:vK s t zs i c j):∃ r:List Int×Int×Int,av Tryz.prog (lb 132 gv) (jt s t zs i c j) (iU s t zs i c j) (.exit 2) (jt s t r.1 i r.2.1 r.2.2) (iU s t r.1 i r.2.1 r.2.2)∧zB s t zs i c j r:=by
 obtain ⟨M,O, ⟨k,rfl,U⟩,Z,ab,rfl,rfl⟩:=h
 have hb:=lQ s k
 obtain ⟨x,G⟩:∃ x:Nat,aR s k=x:= ⟨(aR s k).toNat,by omega⟩
 obtain ⟨r,k1,aE,a1,a6,J,a7,bx,I⟩:=adN s t M O k U x (by omega) G t.size 0 zs (Nat.le_refl _) Z ab (by omega)
 have e:t.data.toList.take t.size=t.data.toList:=List.take_of_length_le (by rw [Array.length_toList];exact Nat.le_refl _)
 rw [e,Nat.zero_mul,Nat.add_zero] at I
 unfold zB
 rw [Int.toNat_natCast,G,Int.toNat_natCast]
 exact ⟨r,k1,aE,a1,a6,J,a7,bx,I⟩
def HI (J:ByteArray→ByteArray→List Int→Int→Int→Int→Bool) (G:ByteArray→ByteArray→List Int→Int→Int→Int→List Int×Int×Int) (T:List AV) (H:Hp):Option (Bool×Ex×List AV×Hp):=
 match al T 0,al T 1,al T 5,al T 6,al T 7,al T 8,H with
 | .val (.string s), .val (.string t), .sl false 3 0 0 I, .val (.int .i64 i), .val (.int .i64 c), .val (.int .i64 j), [.row (.ints .i64 zs) 3 .live]=>bif T.length==87 then some (decide (I=zs.length)&&J s t zs i c j, .exit 2,jt s t ((G s t zs i c j).1) i ((G s t zs i c j).2.1) ((G s t zs i c j).2.2),iU s t ((G s t zs i c j).1) i ((G s t zs i c j).2.1) ((G s t zs i c j).2.2)) else none
 | _,_,_,_,_,_,_=>none
abbrev BN:Type:=ByteArray→ByteArray→List Int→Int→Int→Int→Bool
abbrev Br:Type:=ByteArray→ByteArray→List Int→Int→Int→Int→List Int×Int×Int
def Ka (G:BN) (I:Br) (L:aC):aC:=bp 0 132 gv [0,1,5,6,7,8] (HI G I) L
def kt (s t:ByteArray) (zs:List Int) (i c j:Int):List Int×Int×Int:=Classical.epsilon fun ρ=>av Tryz.prog (lb 132 gv) (jt s t zs i c j) (iU s t zs i c j) (.exit 2) (jt s t (ρ.1) i (ρ.2.1) (ρ.2.2)) (iU s t (ρ.1) i (ρ.2.1) (ρ.2.2))∧zB s t zs i c j ρ
theorem Ow (s t:ByteArray) (zs:List Int) (i c j:Int) (h:vK s t zs i c j):av Tryz.prog (lb 132 gv) (jt s t zs i c j) (iU s t zs i c j) (.exit 2) (jt s t ((kt s t zs i c j).1) i ((kt s t zs i c j).2.1) ((kt s t zs i c j).2.2)) (iU s t ((kt s t zs i c j).1) i ((kt s t zs i c j).2.1) ((kt s t zs i c j).2.2))∧zB s t zs i c j (kt s t zs i c j):=Classical.epsilon_spec (aa0 s t zs i c j h)
def tY (s t:ByteArray) (zs:List Int) (i c j:Int):Bool:= @decide (vK s t zs i c j) (Classical.propDecidable _)
theorem Wy (s t:ByteArray) (zs:List Int) (i c j:Int) (h:vK s t zs i c j):tY s t zs i c j=true:= @decide_eq_true _ (Classical.propDecidable _) h
theorem agC (T:List AV) (H:Hp) (e:Ex) (J:List AV) (I:Hp) (h:HI tY kt T H=some (true,e,J,I)):V.Ends Tryz.prog false 0 0 (.loop (lb 132 gv)) T H e J I:=by
 unfold HI at h
 split at h
 ·rename_i s t b0 i c j zs U Z ab aE a1 a6
  rw [Bool.cond_eq_ite] at h
  split at h
  ·rename_i M
   rw [beq_iff_eq] at M
   simp only [Option.some.injEq,Prod.mk.injEq,Bool.and_eq_true,decide_eq_true_eq] at h
   obtain ⟨⟨k1,bx⟩,rfl,rfl,rfl⟩:=h
   have bD:= @of_decide_eq_true _ (Classical.propDecidable _) bx
   refine Ends.pre (Ow s t zs i c j bD).1.ends (fun α B w D b1 a7=>bq M (fun p O y G=> ?_) a7)
   simp only [List.mem_cons,List.not_mem_nil,or_false] at O
   rcases O with rfl | rfl | rfl | rfl | rfl | rfl
   ·rw [U] at G;exact G
   ·rw [Z] at G;exact G
   ·rw [ab] at G;rw [← k1];exact G
   ·rw [aE] at G;exact G
   ·rw [a1] at G;exact G
   ·rw [a6] at G;exact G
  ·cases h
 ·cases h
theorem Sz {L:aC} (h:aB Tryz.prog L):aB Tryz.prog (Ka tY kt L):=h.bz TW agC
def IH (G:BN) (I:Br):Env:= ⟨aK,au,Ka G I aq⟩
abbrev gw:List Bool:= [false,true,false,true,true]
def ju (s t:ByteArray) (zs:List Int) (i:Int):List AV:=ar 87 [(0, .val (.string s)),(1, .val (.string t)),(5, .sl false 3 0 0 zs.length),(6, .val (.int .i64 i))]
def iV (s t:ByteArray) (zs:List Int) (i:Int):Hp:= [.row (.ints .i64 zs) 3 .live]
theorem TX:aH Tryz.prog 132 gw=some (.loop (lb 132 gw)):=by kernel_rfl
theorem VC:aH Tryz.prog 132 (false :: gw)=some (lb 132 gw):=by kernel_rfl
theorem Pj (I:BN) (J:Br) (s t:ByteArray) (zs:List Int) (i:Int):letI G:=(J s t zs i (0:Int) ((↑t.size:Int) - 1));
  (aO Tryz.prog (IH I J) 132 [0,1,5,6] (lb 132 gw) (false :: gw) (ju s t zs i) (iV s t zs i)=(bif decide (0≤i) then (bif ai IntKind.i64 ((↑t.size:Int) - 1) then (bif decide (zs.length=zs.length)&&I s t zs i (0:Int) ((↑t.size:Int) - 1) then (bif decide (0≤i)&&decide (i < (↑G.fst.length:Int)) then (bif decide (0+i.toNat*1 < G.fst.length) then (bif ai IntKind.i64 (G.fst.getD (0+i.toNat*1) 0+G.snd.fst) then (bif decide (0≤i)&&decide (i < (↑G.fst.length:Int)) then (bif decide (0+i.toNat*1 < G.fst.length) then (bif ai IntKind.i64 (i - 1) then some (.normal,ar 87 [(0,(.val (.string s))),(1,(.val (.string t))),(5,(.sl false 3 0 0 (G.fst.length))),(6,(.val (.int .i64 (i - 1))))], [(.row (.ints .i64 (G.fst.set (0+i.toNat*1) (G.fst.getD (0+i.toNat*1) 0+G.snd.fst))) 3 .live)]) else none) else none) else none) else none) else none) else none) else none) else none) else some ((.exit 0),ar 87 [(0,(.val (.string s))),(1,(.val (.string t))),(5,(.sl false 3 0 0 zs.length)),(6,(.val (.int .i64 i)))], [(.row (.ints .i64 zs) 3 .live)]))):=by kernel_rfl
theorem Qj {s t:ByteArray} {zs:List Int} {i:Int} {e:Ex} {T:List AV} {H:Hp} (h:aO Tryz.prog (IH tY kt) 132 [0,1,5,6] (lb 132 gw) (false :: gw) (ju s t zs i) (iV s t zs i)=some (e,T,H)):V.Ends Tryz.prog false 0 0 (lb 132 gw) (ju s t zs i) (iV s t zs i) e T H:=
 bF (aJ _) (Sz aB.none).ok mixed VC h
theorem adQ {V A G X P x T c Q:Nat} (I:G+c*Q=A+x*T*P):G+c*Q+X*T*(256*P)=A+(X*256+x)*T*P:=by
 have e:(X*256+x)*T*P=X*T*(256*P)+x*T*P:=by grind
 omega
theorem adP (s t:ByteArray) (b4:s.size≤8796093022208) (b7:t.size≤8796093022208) (d:Nat):∀ zs:List Int,d≤s.size→zs.length=s.size+t.size→ke zs→(∀ k:Nat,k < d→zs[k]? =some 0)→
  ∃ r:List Int×Int,av Tryz.prog (lb 132 gw) (ju s t zs ((d:Int) - 1)) (iV s t zs ((d:Int) - 1)) (.exit 0) (ju s t r.1 r.2) (iV s t r.1 r.2)∧r.1.length=s.size+t.size∧ke r.1∧vY r.1=vY (zs.drop d)+vB (s.data.toList.take d)*vS t*256 ^ (s.size - d):=by
 induction d with
 | zero=>
  intro zs b0 M O J
  refine ⟨(zs,((0:Nat):Int) - 1), .last (Qj ?_) (by intro h;cases h),M,O, ?_⟩
  ·rw [Pj,dF (show ¬ (0:Int)≤((0:Nat):Int) - 1 by decide)];rfl
  ·rw [List.take_zero]
   show _=_+0*_*_
   rw [Nat.zero_mul,Nat.zero_mul];rfl
 | succ d c0=>
  intro zs b0 M O J
  have a1:vK s t zs (d:Int) 0 ((t.size:Int) - 1):= ⟨b4,b7, ⟨d,rfl,by omega⟩,M,O,rfl,rfl⟩
  obtain ⟨_,p1,p2,p3,G,p4,p5,I⟩:=Ow _ _ _ _ _ _ a1
  have Z:=Pj tY kt s t zs (d:Int)
  rw [Wy _ _ _ _ _ _ a1] at Z
  generalize kt s t zs (d:Int) 0 ((t.size:Int) - 1)=q at*
  obtain ⟨q1,q2⟩:=q
  rw [Int.toNat_natCast] at p3 I
  have ab:q1[d]? =some ((0:Nat):Int):=by rw [p3 d (Nat.le_refl _),J d (by omega)];rfl
  have ct:q1.getD d 0=0:=by rw [List.getD_eq_getElem?_getD,ab];rfl
  have p1:q1.length=s.size+t.size:=p1
  obtain ⟨r,a6,a7,bx,bD⟩:=c0 (q1.set d (G:Int)) (by omega) (by rw [List.length_set];exact p1) (NI p2 _ _ p5) (fun k c3=>by
   rw [List.getElem?_set_ne (by omega),p3 k (by omega),J k (by omega)])
  refine ⟨r, .more (Qj ?_) a6,a7,bx, ?_⟩
  ·have p4:q2.1=(G:Int):=p4
   rw [p4,Int.toNat_natCast,Nat.zero_add,Nat.mul_one,ct,Int.zero_add,dT (show (0:Int)≤(d:Int) by omega),aM (show -9223372036854775808≤(t.size:Int) - 1∧(t.size:Int) - 1≤9223372036854775807 by omega),dT (show zs.length=zs.length from rfl),dT (show (d:Int) < (q1.length:Int) by omega),dT (show d < q1.length by omega),bH G (by omega),aM (show -9223372036854775808≤(d:Int) - 1∧(d:Int) - 1≤9223372036854775807 by omega)] at Z
   rw [show ((d+1:Nat):Int) - 1=(d:Int) by omega,Z]
   unfold ju iV
   rw [List.length_set]
   rfl
  ·have U:=Q9 0 G (by omega) p5 q1 d d (Nat.le_refl _) ab
   rw [Nat.zero_mul,Nat.add_zero] at U
   have aE:d < q1.length:=by omega
   have b2:q1[d]=0:=by
    have:=List.getElem?_eq_getElem aE
    rw [ab] at this
    exact (Option.some.inj this).symm
   have b1:vY (q1.drop d)=vY (q1.drop (d+1)):=by
    rw [List.drop_eq_getElem_cons aE,sY,b2]
    show 0*_+_=_
    rw [Nat.zero_mul,Nat.zero_add]
   rw [b1,p1] at U
   have hb:=lQ s d
   obtain ⟨x,ch⟩:∃ x:Nat,aR s d=x:= ⟨(aR s d).toNat,by omega⟩
   have b5:=qP s d (by omega)
   rw [ch] at b5 I
   have b6:vB (s.data.toList.take (d+1))=vB (s.data.toList.take d)*256+x:=by omega
   have b3:256 ^ (s.size - d)=256*256 ^ (s.size - (d+1)):=by
    rw [show s.size - d=(s.size - (d+1))+1 by omega,Nat.pow_succ,Nat.mul_comm]
   rw [Int.toNat_natCast,show s.size+t.size - (d+t.size+1)=s.size - (d+1) by omega] at I
   rw [bD,U,b3,b6,show s.size+t.size - d - 1=s.size+t.size - (d+1) by omega]
   exact adQ (V:=0) I
def vM (s t:ByteArray) (zs:List Int) (i:Int):Prop:=s.size≤8796093022208∧t.size≤8796093022208∧zs=List.replicate (s.size+t.size) 0∧i=(s.size:Int) - 1
def E2 (s t:ByteArray) (zs:List Int) (i:Int) (r:List Int×Int):Prop:=r.1.length=s.size+t.size∧ke r.1∧vY r.1=vS s*vS t
theorem aa1 (s t:ByteArray) (zs:List Int) (i:Int) (h:vM s t zs i):∃ r:List Int×Int,av Tryz.prog (lb 132 gw) (ju s t zs i) (iV s t zs i) (.exit 0) (ju s t r.1 r.2) (iV s t r.1 r.2)∧E2 s t zs i r:=by
 obtain ⟨I,J,rfl,rfl⟩:=h
 obtain ⟨r,k1,U,Z,G⟩:=adP s t I J s.size (List.replicate (s.size+t.size) 0) (Nat.le_refl _) (by rw [List.length_replicate]) (fun z M=>by rw [(List.mem_replicate.1 M).2];omega) (fun k ab=>by rw [List.getElem?_replicate,if_pos (by omega)])
 refine ⟨r,k1,U,Z, ?_⟩
 have e:s.data.toList.take s.size=s.data.toList:=List.take_of_length_le (by rw [Array.length_toList];exact Nat.le_refl _)
 have e0:∀ n:Nat,vY (List.replicate n (0:Int))=0:=by
  intro n
  induction n with
  | zero=>rfl
  | succ n O=>rw [List.replicate_succ,sY,O];show 0*_+0=0;omega
 rw [e,List.drop_replicate,e0,Nat.sub_self,Nat.pow_zero,Nat.mul_one,Nat.zero_add] at G
 exact G
def HJ (J:ByteArray→ByteArray→List Int→Int→Bool) (G:ByteArray→ByteArray→List Int→Int→List Int×Int) (T:List AV) (H:Hp):Option (Bool×Ex×List AV×Hp):=
 match al T 0,al T 1,al T 5,al T 6,H with
 | .val (.string s), .val (.string t), .sl false 3 0 0 I, .val (.int .i64 i), [.row (.ints .i64 zs) 3 .live]=>bif T.length==87 then some (decide (I=zs.length)&&J s t zs i, .exit 0,ju s t ((G s t zs i).1) ((G s t zs i).2),iV s t ((G s t zs i).1) ((G s t zs i).2)) else none
 | _,_,_,_,_=>none
abbrev BO:Type:=ByteArray→ByteArray→List Int→Int→Bool
abbrev Bs:Type:=ByteArray→ByteArray→List Int→Int→List Int×Int
def Kb (G:BO) (I:Bs) (L:aC):aC:=bp 0 132 gw [0,1,5,6] (HJ G I) L
def du (s t:ByteArray) (zs:List Int) (i:Int):List Int×Int:=Classical.epsilon fun ρ=>av Tryz.prog (lb 132 gw) (ju s t zs i) (iV s t zs i) (.exit 0) (ju s t (ρ.1) (ρ.2)) (iV s t (ρ.1) (ρ.2))∧E2 s t zs i ρ
theorem Ox (s t:ByteArray) (zs:List Int) (i:Int) (h:vM s t zs i):av Tryz.prog (lb 132 gw) (ju s t zs i) (iV s t zs i) (.exit 0) (ju s t ((du s t zs i).1) ((du s t zs i).2)) (iV s t ((du s t zs i).1) ((du s t zs i).2))∧E2 s t zs i (du s t zs i):=Classical.epsilon_spec (aa1 s t zs i h)
def tZ (s t:ByteArray) (zs:List Int) (i:Int):Bool:= @decide (vM s t zs i) (Classical.propDecidable _)
theorem Wz (s t:ByteArray) (zs:List Int) (i:Int) (h:vM s t zs i):tZ s t zs i=true:= @decide_eq_true _ (Classical.propDecidable _) h
theorem agD (T:List AV) (H:Hp) (e:Ex) (J:List AV) (I:Hp) (h:HJ tZ du T H=some (true,e,J,I)):V.Ends Tryz.prog false 0 0 (.loop (lb 132 gw)) T H e J I:=by
 unfold HJ at h
 split at h
 ·rename_i s t bx i zs U Z ab aE
  rw [Bool.cond_eq_ite] at h
  split at h
  ·rename_i M
   rw [beq_iff_eq] at M
   simp only [Option.some.injEq,Prod.mk.injEq,Bool.and_eq_true,decide_eq_true_eq] at h
   obtain ⟨⟨k1,a6⟩,rfl,rfl,rfl⟩:=h
   have a7:= @of_decide_eq_true _ (Classical.propDecidable _) a6
   refine Ends.pre (Ox s t zs i a7).1.ends (fun α B w D bD a1=>bq M (fun p O y G=> ?_) a1)
   simp only [List.mem_cons,List.not_mem_nil,or_false] at O
   rcases O with rfl | rfl | rfl | rfl
   ·rw [U] at G;exact G
   ·rw [Z] at G;exact G
   ·rw [ab] at G;rw [← k1];exact G
   ·rw [aE] at G;exact G
  ·cases h
 ·cases h
theorem SA {L:aC} (h:aB Tryz.prog L):aB Tryz.prog (Kb tZ du L):=h.bz TX agD
abbrev gu:List Bool:= [false,true,false,true,true,true,true]
def js (zs G:List Int) (i:Int):List AV:=ar 87 [(5, .sl false 3 0 0 zs.length),(9, .sl false 5 1 0 G.length),(10, .val (.int .i64 i))]
def iT (zs G:List Int) (i:Int):Hp:= [.row (.ints .i64 zs) 3 .live, .row (.ints .u8 G) 5 .live]
theorem TV:aH Tryz.prog 132 gu=some (.loop (lb 132 gu)):=by kernel_rfl
theorem VA:aH Tryz.prog 132 (false :: gu)=some (lb 132 gu):=by kernel_rfl
theorem Pf (zs G:List Int) (i:Int):aO Tryz.prog br 132 [5,9,10] (lb 132 gu) (false :: gu) (js zs G i) (iT zs G i)=
  (bif decide (i < (↑zs.length:Int)) then (bif decide (0≤i)&&decide (i < (↑zs.length:Int)) then (bif decide (0+i.toNat*1 < zs.length) then (bif decide (0≤i)&&decide (i < (↑G.length:Int)) then (bif decide (0+i.toNat*1 < G.length) then (bif ai IntKind.i64 (i+1) then some (.normal,ar 87 [(5,(.sl false 3 0 0 zs.length)),(9,(.sl false 5 1 0 G.length)),(10,(.val (.int .i64 (i+1))))], [(.row (.ints .i64 zs) 3 .live),(.row (.ints .u8 (G.set (0+i.toNat*1) (IntKind.u8.wrap (zs.getD (0+i.toNat*1) (0:Int))))) 5 .live)]) else none) else none) else none) else none) else none) else some ((.exit 4),ar 87 [(5,(.sl false 3 0 0 zs.length)),(9,(.sl false 5 1 0 G.length)),(10,(.val (.int .i64 i)))], [(.row (.ints .i64 zs) 3 .live),(.row (.ints .u8 G) 5 .live)])):=by kernel_rfl
theorem Qh {zs G:List Int} {i:Int} {e:Ex} {T:List AV} {H:Hp} (h:aO Tryz.prog br 132 [5,9,10] (lb 132 gu) (false :: gu) (js zs G i) (iT zs G i)=some (e,T,H)):V.Ends Tryz.prog false 0 0 (lb 132 gu) (js zs G i) (iT zs G i) e T H:=
 bF (aJ _) aN mixed VA h
def vJ (zs G:List Int) (i:Int):Prop:=ke zs∧G.length=zs.length∧zs.length≤17592186044416∧i=0
def E1 (zs G:List Int) (i:Int) (r:List Int×Int):Prop:=r.1=zs
theorem adM (zs:List Int) (U:ke zs) (a7:zs.length≤17592186044416) (d:Nat):∀ (i:Nat) (G:List Int),i+d=zs.length→G.length=zs.length→(∀ k:Nat,k < i→G[k]? =zs[k]?)→
  ∃ r:List Int×Int,av Tryz.prog (lb 132 gu) (js zs G i) (iT zs G i) (.exit 4) (js zs r.1 r.2) (iT zs r.1 r.2)∧r.1=zs:=by
 induction d with
 | zero=>
  intro i G hi J I
  refine ⟨(G,(i:Int)), .last (Qh ?_) (by intro h;cases h), ?_⟩
  ·rw [Pf,dF (show ¬ (i:Int) < (zs.length:Int) by omega)];rfl
  ·apply List.ext_getElem?
   intro k
   by_cases h:k < i
   ·exact I k h
   ·show G[k]? =zs[k]?
    rw [List.getElem?_eq_none (by omega),List.getElem?_eq_none (by omega)]
 | succ d a1=>
  intro i G hi J I
  obtain ⟨z,Z,ab,aE⟩:=Mf U i (by omega)
  obtain ⟨r,M,O⟩:=a1 (i+1) (G.set i (z:Int)) (by omega) (by rw [List.length_set];exact J) (fun k a6=>by
   by_cases h:k=i
   ·subst h;rw [List.getElem?_set_self (by omega),ab]
   ·rw [List.getElem?_set_ne (by omega)];exact I k (by omega))
  refine ⟨r, .more (Qh ?_) M,O⟩
  rw [Pf,Int.toNat_natCast,Nat.zero_add,Nat.mul_one,aE,kY,Nat.mod_eq_of_lt Z,dT (show (0:Int)≤(i:Int) by omega),dT (show (i:Int) < (zs.length:Int) by omega),dT (show (i:Int) < (G.length:Int) by omega),dT (show i < zs.length by omega),dT (show i < G.length by omega),aM (show -9223372036854775808≤(i:Int)+1∧(i:Int)+1≤9223372036854775807 by omega)]
  unfold js iT
  rw [List.length_set]
  rfl
theorem aaZ (zs G:List Int) (i:Int) (h:vJ zs G i):∃ r:List Int×Int,av Tryz.prog (lb 132 gu) (js zs G i) (iT zs G i) (.exit 4) (js zs r.1 r.2) (iT zs r.1 r.2)∧E1 zs G i r:=by
 obtain ⟨I,J,M,rfl⟩:=h
 exact adM zs I M zs.length 0 G (by omega) J (fun k O=>absurd O (by omega))
def HH (O:List Int→List Int→Int→Bool) (I:List Int→List Int→Int→List Int×Int) (T:List AV) (H:Hp):Option (Bool×Ex×List AV×Hp):=
 match al T 5,al T 9,al T 10,H with
 | .sl false 3 0 0 M, .sl false 5 1 0 J, .val (.int .i64 i), [.row (.ints .i64 zs) 3 .live, .row (.ints .u8 G) 5 .live]=>bif T.length==87 then some (decide (M=zs.length)&&decide (J=G.length)&&O zs G i, .exit 4,js zs ((I zs G i).1) ((I zs G i).2),iT zs ((I zs G i).1) ((I zs G i).2)) else none
 | _,_,_,_=>none
abbrev BM:Type:=List Int→List Int→Int→Bool
abbrev Bq:Type:=List Int→List Int→Int→List Int×Int
def J9 (G:BM) (I:Bq) (L:aC):aC:=bp 0 132 gu [5,9,10] (HH G I) L
def mi (zs G:List Int) (i:Int):List Int×Int:=Classical.epsilon fun ρ=>av Tryz.prog (lb 132 gu) (js zs G i) (iT zs G i) (.exit 4) (js zs (ρ.1) (ρ.2)) (iT zs (ρ.1) (ρ.2))∧E1 zs G i ρ
theorem Ov (zs G:List Int) (i:Int) (h:vJ zs G i):av Tryz.prog (lb 132 gu) (js zs G i) (iT zs G i) (.exit 4) (js zs ((mi zs G i).1) ((mi zs G i).2)) (iT zs ((mi zs G i).1) ((mi zs G i).2))∧E1 zs G i (mi zs G i):=Classical.epsilon_spec (aaZ zs G i h)
def tX (zs G:List Int) (i:Int):Bool:= @decide (vJ zs G i) (Classical.propDecidable _)
theorem Wx (zs G:List Int) (i:Int) (h:vJ zs G i):tX zs G i=true:= @decide_eq_true _ (Classical.propDecidable _) h
theorem agB (T:List AV) (H:Hp) (e:Ex) (J:List AV) (I:Hp) (h:HH tX mi T H=some (true,e,J,I)):V.Ends Tryz.prog false 0 0 (.loop (lb 132 gu)) T H e J I:=by
 unfold HH at h
 split at h
 ·rename_i b0 bD i zs U ab aE Z
  rw [Bool.cond_eq_ite] at h
  split at h
  ·rename_i M
   rw [beq_iff_eq] at M
   simp only [Option.some.injEq,Prod.mk.injEq,Bool.and_eq_true,decide_eq_true_eq] at h
   obtain ⟨⟨⟨k1,a6⟩,a7⟩,rfl,rfl,rfl⟩:=h
   have bx:= @of_decide_eq_true _ (Classical.propDecidable _) a7
   refine Ends.pre (Ov zs U i bx).1.ends (fun α B w D U a1=>bq M (fun p O y G=> ?_) a1)
   simp only [List.mem_cons,List.not_mem_nil,or_false] at O
   rcases O with rfl | rfl | rfl
   ·rw [ab] at G;rw [← k1];exact G
   ·rw [aE] at G;rw [← a6];exact G
   ·rw [Z] at G;exact G
  ·cases h
 ·cases h
theorem Sx {L:aC} (h:aB Tryz.prog L):aB Tryz.prog (J9 tX mi L):=h.bz TV agB
def IK (S:Sg) (G:BO) (J:Bs) (I:BM) (M:Bq):Env:= ⟨aw 160 (oV S) aK,au,Kb G J (J9 I M aq)⟩
theorem adS (S:Sg) (O:BO) (Z:Bs) (U:BM) (M:Bq) (s t:ByteArray):letI J:=((↑s.size:Int)+(↑t.size:Int));letI G:=(Z s t (List.replicate J.toNat (0:Int)) ((↑s.size:Int) - 1));letI I:=(List.replicate (↑G.fst.length:Int).toNat (0:Int));
  (aF Tryz.prog (IK S O Z U M) 10 10 132 [.val (.string s), .val (.string t)]=(bif ai IntKind.i64 J then (bif decide ((↑s.size:Int)+(↑t.size:Int)≤(↑s.size:Int)+(↑t.size:Int))&&decide (8*J≤281474976710656)&&decide ((↑s.size:Int)+(↑t.size:Int)≤9223372036854775807) then (bif ai IntKind.i64 ((↑s.size:Int) - 1) then (bif decide (J.toNat=(List.replicate J.toNat (0:Int)).length)&&O s t (List.replicate J.toNat (0:Int)) ((↑s.size:Int) - 1) then (bif decide ((↑G.fst.length:Int)≤(↑G.fst.length:Int))&&decide (1*(↑G.fst.length:Int)≤281474976710656)&&decide ((↑G.fst.length:Int)≤9223372036854775807) then (bif decide (G.fst.length=G.fst.length)&&decide ((↑G.fst.length:Int).toNat=I.length)&&U G.fst I (0:Int) then (bif decide (0+(M G.fst I (0:Int)).fst.length*1≤(M G.fst I (0:Int)).fst.length) then some (.val (.string (S.mg (S.vs (ofBytes (List.take ((M G.fst I (0:Int)).fst.length*1) (List.drop 0 (M G.fst I (0:Int)).fst))))))) else none) else none) else none) else none) else none) else none) else none)):=by kernel_rfl
end
end Go.Proofs.YtamcpiicmfielaaGreat.L
namespace Go.Proofs.YtamcpiicmfielaaGreat.L
open Go Go.V Go.RowKit Go.Proofs.YtamcpiicmfielaaGreat.Sp Go.Proofs.YtamcpiicmfielaaGreat.F Go.Proofs.YtamcpiicmfielaaGreatW.PrintWords
open Go.Proofs (Tryz.prog)
noncomputable section
def GS (S:Sg) (args:List AV):Option (Bool×AV):=match args with | [.val (.string s), .val (.string t)]=>some (S.ok s&&S.ok t, .val (.string (S.mg (S.vs s*S.vs t)))) | _=>none
theorem toNatN (n:Nat):(n:Int).toNat=n:=of_eq_true (eq_true rfl)
theorem Yi:Entry Tryz.prog 132 (GS aa):=by
 refine bg (E:=IK aa tZ du tX mi) (u:=10) (d:=10) ((aJ _).add ry) (SA (Sx aB.none)).ok mixed (by kernel_rfl) (fun args r h=> ?_)
 unfold GS at h
 split at h
 ·rename_i s t
  simp only [Option.some.injEq,Prod.mk.injEq,Bool.and_eq_true] at h
  obtain ⟨⟨ab,aE⟩,rfl⟩:=h
  have z1:=lx ab
  have z2:=lx aE
  have I:vM s t (List.replicate (s.size+t.size) 0) ((s.size:Int) - 1):= ⟨z1,z2,rfl,rfl⟩
  obtain ⟨_,a1,M,O⟩:=Ox _ _ _ _ I
  have G:=adS aa tZ du tX mi s t
  have Z:((s.size:Int)+(t.size:Int))=((s.size+t.size:Nat):Int):=(Int.natCast_add _ _).symm
  rw [Z] at G
  simp only [toNatN,List.length_replicate,eq_self,decide_true] at G
  rw [Wz _ _ _ _ I] at G
  have J:vJ (du s t (List.replicate (s.size+t.size) 0) ((s.size:Int) - 1)).1 (List.replicate (du s t (List.replicate (s.size+t.size) 0) ((s.size:Int) - 1)).1.length 0) 0:= ⟨M,by rw [List.length_replicate],by omega,rfl⟩
  obtain ⟨_,d1⟩:=Ov _ _ _ J
  rw [Wx _ _ _ J] at G
  have d1:(mi (du s t (List.replicate (s.size+t.size) 0) ((s.size:Int) - 1)).1 (List.replicate (du s t (List.replicate (s.size+t.size) 0) ((s.size:Int) - 1)).1.length 0) 0).1=(du s t (List.replicate (s.size+t.size) 0) ((s.size:Int) - 1)).1:=d1
  rw [d1,bH _ (by omega),dT (show ((s.size+t.size:Nat):Int)≤((s.size+t.size:Nat):Int) by omega),dT (show (8:Int)*((s.size+t.size:Nat):Int)≤281474976710656 by omega),dT (show ((s.size+t.size:Nat):Int)≤9223372036854775807 by omega),aM (show -9223372036854775808≤(s.size:Int) - 1∧(s.size:Int) - 1≤9223372036854775807 by omega),dT (show (((du s t (List.replicate (s.size+t.size) 0) ((s.size:Int) - 1)).1.length:Nat):Int)≤(((du s t (List.replicate (s.size+t.size) 0) ((s.size:Int) - 1)).1.length:Nat):Int) by omega),dT (show (1:Int)*(((du s t (List.replicate (s.size+t.size) 0) ((s.size:Int) - 1)).1.length:Nat):Int)≤281474976710656 by omega),dT (show (((du s t (List.replicate (s.size+t.size) 0) ((s.size:Int) - 1)).1.length:Nat):Int)≤9223372036854775807 by omega),dT (show 0+(du s t (List.replicate (s.size+t.size) 0) ((s.size:Int) - 1)).1.length*1≤(du s t (List.replicate (s.size+t.size) 0) ((s.size:Int) - 1)).1.length by omega),Nat.mul_one,List.drop_zero,List.take_length] at G
  have U:aa.vs (ofBytes (du s t (List.replicate (s.size+t.size) 0) ((s.size:Int) - 1)).1)=aa.vs s*aa.vs t:=O
  rw [← U]
  exact G
 ·cases h
def A3 (S:Sg):FuncId→List AV→Option (Bool×AV):=aw 130 (oS S) (aw 132 (GS S) (aw 131 (Ay S) (aw 124 (kW S) aK)))
theorem Rx:bf Tryz.prog (A3 aa):=((((aJ _).add uk).add LG).add Yi).add uj
theorem adR (S:Sg) (b c:Bool) (s t:ByteArray):letI G:=(S.val (S.ng (S.val b s)) (S.ms (S.val b s))*S.val (S.ng (S.val c t)) (S.ms (S.val c t)));
  (aF Tryz.prog ⟨A3 S,au,aq⟩ 10 10 96 [.agg [.val (.bool b), .val (.string s)], .agg [.val (.bool c), .val (.string t)]]=(bif aG (S.ms (S.val b s)) (ByteArray.mk #[]) then some (.agg [(.val (.bool false)),(.val (.string (ByteArray.mk #[])))]) else (bif aG (S.ms (S.val c t)) (ByteArray.mk #[]) then some (.agg [(.val (.bool false)),(.val (.string (ByteArray.mk #[])))]) else (bif ai IntKind.i64 ((↑(S.ms (S.val b s)).size:Int)+(↑(S.ms (S.val c t)).size:Int)) then (bif decide ((↑(S.ms (S.val b s)).size:Int)+(↑(S.ms (S.val c t)).size:Int) < 8) then (bif decide ((S.ms (S.val b s)).size≤8)&&decide (S.vs (S.ms (S.val b s)) < 9223372036854775808) then (bif decide ((S.ms (S.val c t)).size≤8)&&decide (S.vs (S.ms (S.val c t)) < 9223372036854775808) then (bif ai IntKind.i64 G then (bif cW G then some (.agg [(.val (.bool (S.ng G))),(.val (.string (S.ms G)))]) else none) else none) else none) else none) else (bif S.ok (S.ms (S.val b s))&&S.ok (S.ms (S.val c t)) then some (.agg [(.val (.bool (bif true then !S.ng (S.val b s)==S.ng (S.val c t) else S.ng (S.val b s)==S.ng (S.val c t)))),(.val (.string (S.mg (S.vs (S.ms (S.val b s))*S.vs (S.ms (S.val c t))))))]) else none)) else none)))):=by kernel_rfl
theorem Um {a b:Nat} (h:bs a+bs b < 8):a*b < 72057594037927936:=by
 have G:=xB a b
 exact wy (by omega)
theorem Yh:Entry Tryz.prog 96 (sQ aa):=by
 refine bg (E:= ⟨A3 aa,au,aq⟩) (u:=10) (d:=10) Rx aN mixed (by kernel_rfl) (fun args r h=> ?_)
 unfold sQ at h
 split at h
 ·rename_i b s c t
  simp only [Option.some.injEq,Prod.mk.injEq,Bool.and_eq_true] at h
  obtain ⟨⟨aE,a1⟩,rfl⟩:=h
  have M:=adR aa b c s t
  have Z:=Nat.le_trans (dK b s) (lx aE)
  have ab:=Nat.le_trans (dK c t) (lx a1)
  generalize aa.val b s=x at*
  generalize aa.val c t=y at*
  simp only [wQ,wv,eX,uO] at M
  rw [bW Z,bW ab] at M
  rw [M]
  clear M
  by_cases J:x=0
  ·rw [dT J,J,Int.zero_mul]
   unfold Sg.int
   rw [lY]
   rfl
  by_cases O:y=0
  ·rw [dF J,dT O,O,Int.mul_zero]
   unfold Sg.int
   rw [lY]
   rfl
  rw [dF J,dF O,aM (show -9223372036854775808≤(bs x.natAbs:Int)+(bs y.natAbs:Int)∧(bs x.natAbs:Int)+(bs y.natAbs:Int)≤9223372036854775807 by omega)]
  by_cases U:(bs x.natAbs:Int)+(bs y.natAbs:Int) < 8
  ·have k:=Um (show bs x.natAbs+bs y.natAbs < 8 by omega)
   have k1:=wy (show bs x.natAbs < 8 by omega)
   have a7:=wy (show bs y.natAbs < 8 by omega)
   have bx:(x*y).natAbs < 72057594037927936:=by rw [Int.natAbs_mul];exact k
   rw [dT U,dT (show bs x.natAbs≤8 by omega),dT (show bs y.natAbs≤8 by omega),dT (show x.natAbs < 9223372036854775808 by omega),dT (show y.natAbs < 9223372036854775808 by omega),aM (show -9223372036854775808≤x*y∧x*y≤9223372036854775807 by omega)]
   unfold cW
   rw [dT (show -9223372036854775808≤x*y by omega),dT (show x*y≤9223372036854775807 by omega)]
   rfl
  ·rw [dF U]
   have a6:(!(aa.ng x==aa.ng y))=decide (x*y < 0):=by
    rcases Int.lt_or_gt_of_ne J with G | G <;> rcases Int.lt_or_gt_of_ne O with I | I
    ·have:=Int.mul_pos_of_neg_of_neg G I
     rw [uP (by omega),dF (show ¬ x*y < 0 by omega)];rfl
    ·have:=Int.mul_neg_of_neg_of_pos G I
     rw [uQ (by omega),dT (show x*y < 0 by omega)];rfl
    ·have:=Int.mul_neg_of_pos_of_neg G I
     rw [uQ (by omega),dT (show x*y < 0 by omega)];rfl
    ·have:=Int.mul_pos G I
     rw [uP (by omega),dF (show ¬ x*y < 0 by omega)];rfl
   exact congrArg some (int_eq (n:=x.natAbs*y.natAbs) a6 (Int.natAbs_mul x y).symm)
 ·cases h
end
end Go.Proofs.YtamcpiicmfielaaGreat.L
