import Derived.Test.YtamcpiicmfielaaGreatZQA
set_option linter.unusedVariables false
set_option linter.unusedSimpArgs false
namespace Go.Proofs.YtamcpiicmfielaaGreat.L
open Go Go.V Go.RowKit Go.Proofs.YtamcpiicmfielaaGreat.Sp Go.Proofs.YtamcpiicmfielaaGreat.F Go.Proofs.YtamcpiicmfielaaGreatW.PrintWords
open Go.Proofs (Tryz.prog)
noncomputable section
def vY (zs:List Int):Nat:=vB (zs.map fun z=>UInt8.ofNat z.toNat)
theorem aeb (x:Nat) (zs:List Int) (h:x < 256):vY ((x:Int) :: zs)=x*256 ^ zs.length+vY zs:=by
 unfold vY
 rw [List.map_cons,kZ,List.length_map,Int.toNat_natCast,UInt8.toNat_ofNat',Nat.mod_eq_of_lt h]
theorem Pn:vY []=0:=rfl
theorem Pq (zs:List Int) (j x:Nat) (G:j < zs.length) (I:x < 256):vY ((zs.set j (x:Int)).drop j)=x*256 ^ (zs.length - j - 1)+vY (zs.drop (j+1)):=by
 rw [List.drop_eq_getElem_cons (by rw [List.length_set];exact G),List.getElem_set_self,aeb _ _ I,List.length_drop,List.length_set,List.drop_set_of_lt (by omega)]
 rw [show zs.length - (j+1)=zs.length - j - 1 by omega]
theorem xA (s:ByteArray) (i:Nat) (U:i < s.size):aT s (s.size - (i+1))=((vS s / 256 ^ i % 256:Nat):Int):=by
 have I:s.size - (i+1) < s.data.toList.length:=by rw [← lR];omega
 unfold aT
 rw [List.getD_eq_getElem?_getD,List.getElem?_eq_getElem I,Option.getD_some]
 have e:s.data.toList=s.data.toList.take (s.size - (i+1)) ++ (s.data.toList[s.size - (i+1)] :: s.data.toList.drop (s.size - (i+1)+1)):=by
  rw [← List.drop_eq_getElem_cons I,List.take_append_drop]
 have M:vS s=vB s.data.toList:=rfl
 have G:(s.data.toList.drop (s.size - (i+1)+1)).length=i:=by rw [List.length_drop,← lR];omega
 have J:=oh (s.data.toList.drop (s.size - (i+1)+1))
 rw [G] at J
 have Z:=(s.data.toList[s.size - (i+1)]).toNat_lt
 have O:vS s=(vB (s.data.toList.take (s.size - (i+1)))*256+(s.data.toList[s.size - (i+1)]).toNat)*256 ^ i+vB (s.data.toList.drop (s.size - (i+1)+1)):=by
  rw [M]
  conv=>lhs;rw [e]
  rw [GH,List.length_cons,G,kZ,G,Nat.pow_succ,Nat.add_mul]
  have:∀ a:Nat,a*(256 ^ i*256)=a*256*256 ^ i:=fun a=>by rw [Nat.mul_assoc,Nat.mul_comm 256]
  rw [this]
  omega
 rw [O,Nat.mul_comm _ (256 ^ i),Nat.mul_add_div (Nat.pow_pos (by decide)),Nat.div_eq_of_lt J]
 omega
theorem C7 (s:ByteArray) (i:Nat) (h:s.size≤i):vS s / 256 ^ i % 256=0:=by
 rw [Nat.div_eq_of_lt (Nat.lt_of_lt_of_le (k9 s) (Nat.pow_le_pow_right (by decide) h))]
theorem mod_succ (V i:Nat):V % 256 ^ (i+1)=V % 256 ^ i+256 ^ i*(V / 256 ^ i % 256):=by rw [Nat.pow_succ,Nat.mod_mul]
theorem Si {p n v c o:Nat} (h:v+p*c=o):n % 256*p+v+p*256*(n / 256)+p*c=o+p*n:=by
 have e:p*(n % 256)+p*256*(n / 256)=p*n:=by rw [Nat.mul_assoc,← Nat.mul_add,Nat.mod_add_div]
 rw [Nat.mul_comm (n % 256)]
 omega
theorem kD (n:Nat):IntKind.u8.wrap (n:Int)=((n % 256:Nat):Int):=by rw [sd];rfl
theorem tH (a:Nat):(a:Int).fdiv (256:Int)=((a / 256:Nat):Int):=gM a 256
abbrev eJ:List Bool:= [false,true,false,true,true,true,true]
def dD (s t:ByteArray) (n:Int) (zs:List Int) (c i:Int):List AV:=ao 60 [(0, .val (.string s)),(1, .val (.string t)),(5, .val (.int .i64 n)),(6, .sl false 5 0 0 zs.length),(7, .val (.int .i64 c)),(8, .val (.int .i64 i))]
def dw (s t:ByteArray) (n:Int) (zs:List Int) (c i:Int):Hp:= [.row (.ints .u8 zs) 5 .live]
theorem RG:aI Tryz.prog 136 eJ=some (.loop (lb 136 eJ)):=by kernel_rfl
theorem Tq:aI Tryz.prog 136 (false :: eJ)=some (lb 136 eJ):=by kernel_rfl
theorem Nw (s t:ByteArray) (n:Int) (zs:List Int) (c i:Int):letI I:=(c+aT s ((↑s.size:Int) - i).toNat+aT t ((↑t.size:Int) - i).toNat);letI G:=(0+(n - i).toNat*1);
  (aP Tryz.prog bg 136 [0,1,5,6,7,8] (lb 136 eJ) (false :: eJ) (dD s t n zs c i) (dw s t n zs c i)=(bif decide (i≤n) then (bif decide (i≤(↑s.size:Int)) then (bif ah IntKind.i64 ((↑s.size:Int) - i) then (bif decide (0≤(↑s.size:Int) - i)&&decide ((↑s.size:Int) - i < (↑s.size:Int)) then (bif ah IntKind.i64 (aT s ((↑s.size:Int) - i).toNat) then (bif ah IntKind.i64 (c+aT s ((↑s.size:Int) - i).toNat) then (bif decide (i≤(↑t.size:Int)) then (bif ah IntKind.i64 ((↑t.size:Int) - i) then (bif decide (0≤(↑t.size:Int) - i)&&decide ((↑t.size:Int) - i < (↑t.size:Int)) then (bif ah IntKind.i64 (aT t ((↑t.size:Int) - i).toNat) then (bif ah IntKind.i64 I then (bif ah IntKind.i64 (n - i) then (bif decide (0≤n - i)&&decide (n - i < (↑zs.length:Int)) then (bif decide (0+(n - i).toNat*1 < zs.length) then (bif ah IntKind.i64 (i+1) then some (.normal,ao 60 [(0,(.val (.string s))),(1,(.val (.string t))),(5,(.val (.int .i64 n))),(6,(.sl false 5 0 0 zs.length)),(7,(.val (.int .i64 (I.fdiv (256:Int))))),(8,(.val (.int .i64 (i+1))))], [(.row (.ints .u8 (zs.set G (IntKind.u8.wrap I))) 5 .live)]) else none) else none) else none) else none) else none) else none) else none) else none) else (bif ah IntKind.i64 (n - i) then (bif decide (0≤n - i)&&decide (n - i < (↑zs.length:Int)) then (bif decide (0+(n - i).toNat*1 < zs.length) then (bif ah IntKind.i64 (i+1) then some (.normal,ao 60 [(0,(.val (.string s))),(1,(.val (.string t))),(5,(.val (.int .i64 n))),(6,(.sl false 5 0 0 zs.length)),(7,(.val (.int .i64 ((c+aT s ((↑s.size:Int) - i).toNat).fdiv (256:Int))))),(8,(.val (.int .i64 (i+1))))], [(.row (.ints .u8 (zs.set G (IntKind.u8.wrap (c+aT s ((↑s.size:Int) - i).toNat)))) 5 .live)]) else none) else none) else none) else none)) else none) else none) else none) else none) else (bif decide (i≤(↑t.size:Int)) then (bif ah IntKind.i64 ((↑t.size:Int) - i) then (bif decide (0≤(↑t.size:Int) - i)&&decide ((↑t.size:Int) - i < (↑t.size:Int)) then (bif ah IntKind.i64 (aT t ((↑t.size:Int) - i).toNat) then (bif ah IntKind.i64 (c+aT t ((↑t.size:Int) - i).toNat) then (bif ah IntKind.i64 (n - i) then (bif decide (0≤n - i)&&decide (n - i < (↑zs.length:Int)) then (bif decide (0+(n - i).toNat*1 < zs.length) then (bif ah IntKind.i64 (i+1) then some (.normal,ao 60 [(0,(.val (.string s))),(1,(.val (.string t))),(5,(.val (.int .i64 n))),(6,(.sl false 5 0 0 zs.length)),(7,(.val (.int .i64 ((c+aT t ((↑t.size:Int) - i).toNat).fdiv (256:Int))))),(8,(.val (.int .i64 (i+1))))], [(.row (.ints .u8 (zs.set G (IntKind.u8.wrap (c+aT t ((↑t.size:Int) - i).toNat)))) 5 .live)]) else none) else none) else none) else none) else none) else none) else none) else none) else (bif ah IntKind.i64 (n - i) then (bif decide (0≤n - i)&&decide (n - i < (↑zs.length:Int)) then (bif decide (0+(n - i).toNat*1 < zs.length) then (bif ah IntKind.i64 (i+1) then some (.normal,ao 60 [(0,(.val (.string s))),(1,(.val (.string t))),(5,(.val (.int .i64 n))),(6,(.sl false 5 0 0 zs.length)),(7,(.val (.int .i64 (c.fdiv (256:Int))))),(8,(.val (.int .i64 (i+1))))], [(.row (.ints .u8 (zs.set G (IntKind.u8.wrap c))) 5 .live)]) else none) else none) else none) else none))) else some ((.exit 0),ao 60 [(0,(.val (.string s))),(1,(.val (.string t))),(5,(.val (.int .i64 n))),(6,(.sl false 5 0 0 zs.length)),(7,(.val (.int .i64 c))),(8,(.val (.int .i64 i)))], [(.row (.ints .u8 zs) 5 .live)]))):=by kernel_rfl
theorem Oo {s t:ByteArray} {n:Int} {zs:List Int} {c i:Int} {e:Ex} {T:List AV} {H:Hp} (h:aP Tryz.prog bg 136 [0,1,5,6,7,8] (lb 136 eJ) (false :: eJ) (dD s t n zs c i) (dw s t n zs c i)=some (e,T,H)):V.Ends Tryz.prog false 0 0 (lb 136 eJ) (dD s t n zs c i) (dw s t n zs c i) e T H:=
 bK (aK _) aO mixed Tq h
def uP (s t:ByteArray) (n:Int) (zs:List Int) (c i:Int):Prop:=s.size≤8796093022208∧t.size≤8796093022208∧n=((max s.size t.size+1:Nat):Int)∧zs.length=max s.size t.size+1∧c=0∧i=1
def DC (s t:ByteArray) (n:Int) (zs:List Int) (c i:Int) (r:List Int×Int×Int):Prop:=r.1.length=max s.size t.size+1∧vY r.1=vS s+vS t
theorem aaw (s t:ByteArray) (c5:s.size≤8796093022208) (c6:t.size≤8796093022208) (n:Nat) (c4:n=max s.size t.size+1) (d:Nat):∀ (i c:Nat) (zs:List Int),i+d=n→zs.length=n→c≤1→
  dR (vY (zs.drop (n - i))+256 ^ i*c=vS s % 256 ^ i+vS t % 256 ^ i)→
  ∃ r:List Int×Int×Int,aA Tryz.prog (lb 136 eJ) (dD s t n zs c ((i+1:Nat):Int)) (dw s t n zs c ((i+1:Nat):Int)) (.exit 0) (dD s t n r.1 r.2.1 r.2.2) (dw s t n r.1 r.2.1 r.2.2)∧r.1.length=n∧vY r.1=vS s+vS t:=by
 induction d with
 | zero=>
  intro i c zs hi M b6 I
  have ct:i=n:=by omega
  refine ⟨(zs,(c:Int),((i+1:Nat):Int)), .last (Oo ?_) (by intro h;cases h),M, ?_⟩
  ·rw [Nw,dF (show ¬ (((i+1:Nat):Int)≤n) by omega)]
   rfl
  ·have I:=I.out
   rw [ct,Nat.sub_self,List.drop_zero] at I
   have a1:vS s < 256 ^ (n - 1):=Nat.lt_of_lt_of_le (k9 s) (Nat.pow_le_pow_right (by decide) (by omega))
   have a6:vS t < 256 ^ (n - 1):=Nat.lt_of_lt_of_le (k9 t) (Nat.pow_le_pow_right (by decide) (by omega))
   have U:256 ^ n=256 ^ (n - 1)*256:=by rw [← Nat.pow_succ];exact congrArg (256 ^ ·) (by omega)
   rw [U] at I
   rw [Nat.mod_eq_of_lt (show vS s < 256 ^ (n - 1)*256 by omega),Nat.mod_eq_of_lt (show vS t < 256 ^ (n - 1)*256 by omega)] at I
   show vY zs=_
   rcases Nat.eq_zero_or_pos c with O | O
   ·rw [O] at I;omega
   ·have:=Nat.le_mul_of_pos_right (256 ^ (n - 1)*256) O
    omega
 | succ d c0=>
  intro i c zs hi M b6 b1
  have c3:i < n:=by omega
  have a7:n - (i+1) < zs.length:=by omega
  have go:∀ x y:Nat,x < 256→y < 256→x=vS s / 256 ^ i % 256→y=vS t / 256 ^ i % 256→
    aP Tryz.prog bg 136 [0,1,5,6,7,8] (lb 136 eJ) (false :: eJ) (dD s t n zs c ((i+1:Nat):Int)) (dw s t n zs c ((i+1:Nat):Int))=some (.normal,dD s t n (zs.set (n - (i+1)) ((c+x+y) % 256:Nat)) ((c+x+y) / 256:Nat) ((i+1+1:Nat):Int),dw s t n (zs.set (n - (i+1)) ((c+x+y) % 256:Nat)) ((c+x+y) / 256:Nat) ((i+1+1:Nat):Int))→
    ∃ r:List Int×Int×Int,aA Tryz.prog (lb 136 eJ) (dD s t n zs c ((i+1:Nat):Int)) (dw s t n zs c ((i+1:Nat):Int)) (.exit 0) (dD s t n r.1 r.2.1 r.2.2) (dw s t n r.1 r.2.1 r.2.2)∧r.1.length=n∧vY r.1=vS s+vS t:=by
   intro x y c7 dx ex ey G
   obtain ⟨r,a1,a6⟩:=c0 (i+1) ((c+x+y) / 256) (zs.set (n - (i+1)) ((c+x+y) % 256:Nat)) (by omega) (by rw [List.length_set];exact M) (by omega) (by
    have I:=b1.out
    constructor
    rw [Pq _ _ _ a7 (Nat.mod_lt _ (by decide)),M,show n - (n - (i+1)) - 1=i by omega,show n - (i+1)+1=n - i by omega,mod_succ,mod_succ,← ex,← ey,Nat.pow_succ]
    have U:=Si (n:=c+x+y) I
    simp only [Nat.mul_add] at U ⊢
    omega)
   exact ⟨r, .more (Oo G) a1,a6⟩
  have G:=Nw s t n zs c ((i+1:Nat):Int)
  have b4:(n:Int) - ((i+1:Nat):Int)=((n - (i+1):Nat):Int):=by omega
  have b5:i < s.size→(s.size:Int) - ((i+1:Nat):Int)=((s.size - (i+1):Nat):Int):=fun h=>by omega
  have aE:i < t.size→(t.size:Int) - ((i+1:Nat):Int)=((t.size - (i+1):Nat):Int):=fun h=>by omega
  have b3:((i+1:Nat):Int)+1=((i+1+1:Nat):Int):=by omega
  have b7:=Nat.mod_lt (vS s / 256 ^ i) (show 0 < 256 by decide)
  have ch:=Nat.mod_lt (vS t / 256 ^ i) (show 0 < 256 by decide)
  have b2:=xA s i
  have ab:=xA t i
  have nx:=C7 s i
  have b0:=C7 t i
  generalize vS s / 256 ^ i % 256=x at*
  generalize vS t / 256 ^ i % 256=y at*
  have q1:ah .i64 ((n - (i+1):Nat):Int)=true:=bB _ (by omega)
  have q2:ah .i64 ((i+1+1:Nat):Int)=true:=bB _ (by omega)
  refine go x y b7 ch rfl rfl ?_
  rw [b4,b3,q1,q2,dT (show ((i+1:Nat):Int)≤n by omega),dT (show (0:Int)≤((n - (i+1):Nat):Int) by omega),dT (show ((n - (i+1):Nat):Int) < (zs.length:Int) by omega),Int.toNat_natCast,Nat.zero_add,Nat.mul_one,dT a7] at G
  by_cases bx:i < s.size
  ·rw [dT (show ((i+1:Nat):Int)≤s.size by omega),b5 bx,bB (s.size - (i+1)) (by omega),dT (show (0:Int)≤((s.size - (i+1):Nat):Int) by omega),dT (show ((s.size - (i+1):Nat):Int) < (s.size:Int) by omega),Int.toNat_natCast,b2 bx,bB x (by omega),← Int.natCast_add,bB (c+x) (by omega)] at G
   by_cases J:i < t.size
   ·rw [dT (show ((i+1:Nat):Int)≤t.size by omega),aE J,bB (t.size - (i+1)) (by omega),dT (show (0:Int)≤((t.size - (i+1):Nat):Int) by omega),dT (show ((t.size - (i+1):Nat):Int) < (t.size:Int) by omega),Int.toNat_natCast,ab J,bB y (by omega),← Int.natCast_add,bB (c+x+y) (by omega),kD,tH] at G
    rw [G]
    unfold dD dw
    rw [List.length_set]
    rfl
   ·have Z:=b0 (by omega)
    rw [dF (show ¬ ((i+1:Nat):Int)≤t.size by omega),kD,tH] at G
    rw [G,Z]
    unfold dD dw
    rw [List.length_set]
    rfl
  ·have bD:=nx (by omega)
   rw [dF (show ¬ ((i+1:Nat):Int)≤s.size by omega)] at G
   by_cases J:i < t.size
   ·rw [dT (show ((i+1:Nat):Int)≤t.size by omega),aE J,bB (t.size - (i+1)) (by omega),dT (show (0:Int)≤((t.size - (i+1):Nat):Int) by omega),dT (show ((t.size - (i+1):Nat):Int) < (t.size:Int) by omega),Int.toNat_natCast,ab J,bB y (by omega),← Int.natCast_add,bB (c+y) (by omega),kD,tH] at G
    rw [G,bD]
    unfold dD dw
    rw [List.length_set]
    rfl
   ·have Z:=b0 (by omega)
    rw [dF (show ¬ ((i+1:Nat):Int)≤t.size by omega),kD,tH] at G
    rw [G,bD,Z]
    unfold dD dw
    rw [List.length_set]
    rfl
theorem Yw (s t:ByteArray) (n:Int) (zs:List Int) (c i:Int) (h:uP s t n zs c i):∃ r:List Int×Int×Int,aA Tryz.prog (lb 136 eJ) (dD s t n zs c i) (dw s t n zs c i) (.exit 0) (dD s t n r.1 r.2.1 r.2.2) (dw s t n r.1 r.2.1 r.2.2)∧DC s t n zs c i r:=by
 obtain ⟨G,I,rfl,J,rfl,rfl⟩:=h
 obtain ⟨r,k1,M,O⟩:=aaw s t G I _ rfl (max s.size t.size+1) 0 0 zs (by omega) J (by omega) ⟨by rw [Nat.sub_zero,List.drop_of_length_le (by omega),Pn];simp [Nat.mod_one]⟩
 exact ⟨r,k1,M,O⟩
def Gc (J:ByteArray→ByteArray→Int→List Int→Int→Int→Bool) (G:ByteArray→ByteArray→Int→List Int→Int→Int→List Int×Int×Int) (T:List AV) (H:Hp):Option (Bool×Ex×List AV×Hp):=
 match al T 0,al T 1,al T 5,al T 6,al T 7,al T 8,H with
 | .val (.string s), .val (.string t), .val (.int .i64 n), .sl false 5 0 0 I, .val (.int .i64 c), .val (.int .i64 i), [.row (.ints .u8 zs) 5 .live]=>bif T.length==60 then some (decide (I=zs.length)&&J s t n zs c i, .exit 0,dD s t n ((G s t n zs c i).1) ((G s t n zs c i).2.1) ((G s t n zs c i).2.2),dw s t n ((G s t n zs c i).1) ((G s t n zs c i).2.1) ((G s t n zs c i).2.2)) else none
 | _,_,_,_,_,_,_=>none
abbrev AQ:Type:=ByteArray→ByteArray→Int→List Int→Int→Int→Bool
abbrev Aw:Type:=ByteArray→ByteArray→Int→List Int→Int→Int→List Int×Int×Int
def Iz (G:AQ) (I:Aw) (L:aD):aD:=bu 0 136 eJ [0,1,5,6,7,8] (Gc G I) L
def jT (s t:ByteArray) (n:Int) (zs:List Int) (c i:Int):List Int×Int×Int:=Classical.epsilon fun ρ=>aA Tryz.prog (lb 136 eJ) (dD s t n zs c i) (dw s t n zs c i) (.exit 0) (dD s t n (ρ.1) (ρ.2.1) (ρ.2.2)) (dw s t n (ρ.1) (ρ.2.1) (ρ.2.2))∧DC s t n zs c i ρ
theorem MH (s t:ByteArray) (n:Int) (zs:List Int) (c i:Int) (h:uP s t n zs c i):aA Tryz.prog (lb 136 eJ) (dD s t n zs c i) (dw s t n zs c i) (.exit 0) (dD s t n ((jT s t n zs c i).1) ((jT s t n zs c i).2.1) ((jT s t n zs c i).2.2)) (dw s t n ((jT s t n zs c i).1) ((jT s t n zs c i).2.1) ((jT s t n zs c i).2.2))∧DC s t n zs c i (jT s t n zs c i):=Classical.epsilon_spec (Yw s t n zs c i h)
def sX (s t:ByteArray) (n:Int) (zs:List Int) (c i:Int):Bool:= @decide (uP s t n zs c i) (Classical.propDecidable _)
theorem Ul (s t:ByteArray) (n:Int) (zs:List Int) (c i:Int) (h:uP s t n zs c i):sX s t n zs c i=true:= @decide_eq_true _ (Classical.propDecidable _) h
theorem adw (T:List AV) (H:Hp) (e:Ex) (J:List AV) (I:Hp) (h:Gc sX jT T H=some (true,e,J,I)):V.Ends Tryz.prog false 0 0 (.loop (lb 136 eJ)) T H e J I:=by
 unfold Gc at h
 split at h
 ·rename_i s t n b0 c i zs U Z ab aE a1 a6
  rw [Bool.cond_eq_ite] at h
  split at h
  ·rename_i M
   rw [beq_iff_eq] at M
   simp only [Option.some.injEq,Prod.mk.injEq,Bool.and_eq_true,decide_eq_true_eq] at h
   obtain ⟨⟨k1,bx⟩,rfl,rfl,rfl⟩:=h
   have bD:= @of_decide_eq_true _ (Classical.propDecidable _) bx
   refine Ends.pre (MH s t n zs c i bD).1.ends (fun α B w D b1 a7=>bw M (fun p O y G=> ?_) a7)
   simp only [List.mem_cons,List.not_mem_nil,or_false] at O
   rcases O with rfl | rfl | rfl | rfl | rfl | rfl
   ·rw [U] at G;exact G
   ·rw [Z] at G;exact G
   ·rw [ab] at G;exact G
   ·rw [aE] at G;rw [← k1];exact G
   ·rw [a1] at G;exact G
   ·rw [a6] at G;exact G
  ·cases h
 ·cases h
theorem Qs {L:aD} (h:aC Tryz.prog L):aC Tryz.prog (Iz sX jT L):=h.bC RG adw
def G8 (S:Sg) (G:AQ) (I:Aw):Env:= ⟨au 160 (og S) aM,az,Iz G I aq⟩
theorem aav (S:Sg) (M:AQ) (O:Aw) (s t:ByteArray):letI I:=(kM (↑s.size:Int) (↑t.size:Int));letI G:=(I+1);letI J:=(O s t G (List.replicate G.toNat (0:Int)) (0:Int) (1:Int));
  (aG Tryz.prog (G8 S M O) 10 10 136 [.val (.string s), .val (.string t)]=(bif ah IntKind.i64 G then (bif decide (0≤I+1)&&decide (I+1≤I+1)&&decide (1*G≤281474976710656)&&decide (I+(1:Int)≤(9223372036854775807:Int)) then (bif decide (G.toNat=(List.replicate G.toNat (0:Int)).length)&&M s t G (List.replicate G.toNat (0:Int)) (0:Int) (1:Int) then (bif decide (0+J.fst.length*1≤J.fst.length) then some (.val (.string (S.mg (S.vs (ofBytes (List.take (J.fst.length*1) (List.drop 0 J.fst))))))) else none) else none) else none) else none)):=by kernel_rfl
def zD (S:Sg) (args:List AV):Option (Bool×AV):=match args with | [.val (.string s), .val (.string t)]=>some (S.ok s&&S.ok t, .val (.string (S.mg (S.vs s+S.vs t)))) | _=>none
theorem kP {s:ByteArray} (h:aa.ok s=true):s.size≤8796093022208:=of_decide_eq_true h
theorem J1:Entry Tryz.prog 136 (zD aa):=by
 refine aZ (E:=G8 aa sX jT) (u:=10) (d:=10) ((aK _).add qJ) (Qs aC.none).ok mixed (by kernel_rfl) (fun args r h=> ?_)
 unfold zD at h
 split at h
 ·rename_i s t
  simp only [Option.some.injEq,Prod.mk.injEq,Bool.and_eq_true] at h
  obtain ⟨⟨M,O⟩,rfl⟩:=h
  have z1:=kP M
  have z2:=kP O
  have e1:((max s.size t.size:Nat):Int)+1=((max s.size t.size+1:Nat):Int):=by omega
  have I:uP s t ((max s.size t.size+1:Nat):Int) (List.replicate (max s.size t.size+1) 0) 0 1:= ⟨z1,z2,rfl,by simp,rfl,rfl⟩
  obtain ⟨_,c1,c2⟩:=MH _ _ _ _ _ _ I
  have G:=aav aa sX jT s t
  simp only [LI,e1,Int.toNat_natCast,List.length_replicate,eq_self,decide_true,Nat.mul_one,Nat.zero_add,List.drop_zero] at G
  rw [Ul _ _ _ _ _ _ I] at G
  generalize jT s t ((max s.size t.size+1:Nat):Int) (List.replicate (max s.size t.size+1) 0) 0 1=q at*
  have J:aa.vs (ofBytes q.1)=aa.vs s+aa.vs t:=c2
  rw [bB _ (by omega),dT (show (0:Int)≤((max s.size t.size+1:Nat):Int) by omega),dT (show ((max s.size t.size+1:Nat):Int)≤((max s.size t.size+1:Nat):Int) by omega),dT (show (1:Int)*((max s.size t.size+1:Nat):Int)≤281474976710656 by omega),dT (show ((max s.size t.size+1:Nat):Int)≤9223372036854775807 by omega),dT (show q.1.length≤q.1.length by omega),List.take_length,J] at G
  exact G
 ·cases h
abbrev eK:List Bool:= [false,true,false,true,true,true]
def dE (s t:ByteArray) (zs:List Int) (c i:Int):List AV:=ao 55 [(0, .val (.string s)),(1, .val (.string t)),(5, .sl false 5 0 0 zs.length),(6, .val (.int .i64 c)),(7, .val (.int .i64 i))]
def dz (s t:ByteArray) (zs:List Int) (c i:Int):Hp:= [.row (.ints .u8 zs) 5 .live]
theorem RP:aI Tryz.prog 137 eK=some (.loop (lb 137 eK)):=by kernel_rfl
theorem TA:aI Tryz.prog 137 (false :: eK)=some (lb 137 eK):=by kernel_rfl
theorem NB (s t:ByteArray) (zs:List Int) (c i:Int):letI G:=(0+((↑s.size:Int) - i).toNat*1);letI I:=(aT s ((↑s.size:Int) - i).toNat - c - aT t ((↑t.size:Int) - i).toNat+256);
  (aP Tryz.prog bg 137 [0,1,5,6,7] (lb 137 eK) (false :: eK) (dE s t zs c i) (dz s t zs c i)=(bif decide (i≤(↑s.size:Int)) then (bif ah IntKind.i64 ((↑s.size:Int) - i) then (bif decide (0≤(↑s.size:Int) - i)&&decide ((↑s.size:Int) - i < (↑s.size:Int)) then (bif ah IntKind.i64 (aT s ((↑s.size:Int) - i).toNat) then (bif ah IntKind.i64 (aT s ((↑s.size:Int) - i).toNat - c) then (bif decide (i≤(↑t.size:Int)) then (bif ah IntKind.i64 ((↑t.size:Int) - i) then (bif decide (0≤(↑t.size:Int) - i)&&decide ((↑t.size:Int) - i < (↑t.size:Int)) then (bif ah IntKind.i64 (aT t ((↑t.size:Int) - i).toNat) then (bif ah IntKind.i64 (aT s ((↑s.size:Int) - i).toNat - c - aT t ((↑t.size:Int) - i).toNat) then (bif decide (aT s ((↑s.size:Int) - i).toNat - c - aT t ((↑t.size:Int) - i).toNat < 0) then (bif ah IntKind.i64 I then (bif ah IntKind.i64 ((↑s.size:Int) - i) then (bif decide (0≤(↑s.size:Int) - i)&&decide ((↑s.size:Int) - i < (↑zs.length:Int)) then (bif decide (0+((↑s.size:Int) - i).toNat*1 < zs.length) then (bif ah IntKind.i64 (i+1) then some (.normal,ao 55 [(0,(.val (.string s))),(1,(.val (.string t))),(5,(.sl false 5 0 0 zs.length)),(6,(.val (.int .i64 1))),(7,(.val (.int .i64 (i+1))))], [(.row (.ints .u8 (zs.set G (IntKind.u8.wrap I))) 5 .live)]) else none) else none) else none) else none) else none) else (bif ah IntKind.i64 ((↑s.size:Int) - i) then (bif decide (0≤(↑s.size:Int) - i)&&decide ((↑s.size:Int) - i < (↑zs.length:Int)) then (bif decide (0+((↑s.size:Int) - i).toNat*1 < zs.length) then (bif ah IntKind.i64 (i+1) then some (.normal,ao 55 [(0,(.val (.string s))),(1,(.val (.string t))),(5,(.sl false 5 0 0 zs.length)),(6,(.val (.int .i64 0))),(7,(.val (.int .i64 (i+1))))], [(.row (.ints .u8 (zs.set G (IntKind.u8.wrap (aT s ((↑s.size:Int) - i).toNat - c - aT t ((↑t.size:Int) - i).toNat)))) 5 .live)]) else none) else none) else none) else none)) else none) else none) else none) else none) else (bif decide (aT s ((↑s.size:Int) - i).toNat - c < 0) then (bif ah IntKind.i64 (aT s ((↑s.size:Int) - i).toNat - c+256) then (bif ah IntKind.i64 ((↑s.size:Int) - i) then (bif decide (0≤(↑s.size:Int) - i)&&decide ((↑s.size:Int) - i < (↑zs.length:Int)) then (bif decide (0+((↑s.size:Int) - i).toNat*1 < zs.length) then (bif ah IntKind.i64 (i+1) then some (.normal,ao 55 [(0,(.val (.string s))),(1,(.val (.string t))),(5,(.sl false 5 0 0 zs.length)),(6,(.val (.int .i64 1))),(7,(.val (.int .i64 (i+1))))], [(.row (.ints .u8 (zs.set G (IntKind.u8.wrap (aT s ((↑s.size:Int) - i).toNat - c+256)))) 5 .live)]) else none) else none) else none) else none) else none) else (bif ah IntKind.i64 ((↑s.size:Int) - i) then (bif decide (0≤(↑s.size:Int) - i)&&decide ((↑s.size:Int) - i < (↑zs.length:Int)) then (bif decide (0+((↑s.size:Int) - i).toNat*1 < zs.length) then (bif ah IntKind.i64 (i+1) then some (.normal,ao 55 [(0,(.val (.string s))),(1,(.val (.string t))),(5,(.sl false 5 0 0 zs.length)),(6,(.val (.int .i64 0))),(7,(.val (.int .i64 (i+1))))], [(.row (.ints .u8 (zs.set G (IntKind.u8.wrap (aT s ((↑s.size:Int) - i).toNat - c)))) 5 .live)]) else none) else none) else none) else none))) else none) else none) else none) else none) else some ((.exit 0),ao 55 [(0,(.val (.string s))),(1,(.val (.string t))),(5,(.sl false 5 0 0 zs.length)),(6,(.val (.int .i64 c))),(7,(.val (.int .i64 i)))], [(.row (.ints .u8 zs) 5 .live)]))):=by kernel_rfl
theorem Oy {s t:ByteArray} {zs:List Int} {c i:Int} {e:Ex} {T:List AV} {H:Hp} (h:aP Tryz.prog bg 137 [0,1,5,6,7] (lb 137 eK) (false :: eK) (dE s t zs c i) (dz s t zs c i)=some (e,T,H)):V.Ends Tryz.prog false 0 0 (lb 137 eK) (dE s t zs c i) (dz s t zs c i) e T H:=
 bK (aK _) aO mixed TA h
def uY (s t:ByteArray) (zs:List Int) (c i:Int):Prop:=s.size≤8796093022208∧t.size≤8796093022208∧vS t≤vS s∧zs.length=s.size∧c=0∧i=1
def DK (s t:ByteArray) (zs:List Int) (c i:Int) (r:List Int×Int×Int):Prop:=r.1.length=s.size∧vY r.1=vS s - vS t
theorem abq (s t:ByteArray) (c5:s.size≤8796093022208) (c6:t.size≤8796093022208) (c4:vS t≤vS s) (d:Nat):∀ (i c:Nat) (zs:List Int),i+d=s.size→zs.length=s.size→c≤1→
  dR (vY (zs.drop (s.size - i))+vS t % 256 ^ i=vS s % 256 ^ i+256 ^ i*c)→
  ∃ r:List Int×Int×Int,aA Tryz.prog (lb 137 eK) (dE s t zs c ((i+1:Nat):Int)) (dz s t zs c ((i+1:Nat):Int)) (.exit 0) (dE s t r.1 r.2.1 r.2.2) (dz s t r.1 r.2.1 r.2.2)∧r.1.length=s.size∧vY r.1=vS s - vS t:=by
 induction d with
 | zero=>
  intro i c zs hi M b5 J
  have b6:i=s.size:=by omega
  refine ⟨(zs,(c:Int),((i+1:Nat):Int)), .last (Oy ?_) (by intro h;cases h),M, ?_⟩
  ·rw [NB,dF (show ¬ (((i+1:Nat):Int)≤s.size) by omega)]
   rfl
  ·have J:=J.out
   have aE:=k9 s
   rw [b6,Nat.sub_self,List.drop_zero,Nat.mod_eq_of_lt aE,Nat.mod_eq_of_lt (show vS t < 256 ^ s.size by omega)] at J
   have a1:vY zs < 256 ^ s.size:=by
    have:=oh (zs.map fun z=>UInt8.ofNat z.toNat)
    rw [List.length_map,M] at this
    exact this
   show vY zs=_
   rcases (show c=0∨c=1 by omega) with ab | ab
   ·rw [ab] at J;omega
   ·rw [ab] at J;omega
 | succ d c0=>
  intro i c zs hi M b5 bD
  have b7:i < s.size:=by omega
  have a7:s.size - (i+1) < zs.length:=by omega
  have go:∀ x y z b:Nat,x < 256→y < 256→x=vS s / 256 ^ i % 256→y=vS t / 256 ^ i % 256→z < 256→b≤1→z+y+c=x+256*b→
    aP Tryz.prog bg 137 [0,1,5,6,7] (lb 137 eK) (false :: eK) (dE s t zs c ((i+1:Nat):Int)) (dz s t zs c ((i+1:Nat):Int))=some (.normal,dE s t (zs.set (s.size - (i+1)) (z:Nat)) (b:Nat) ((i+1+1:Nat):Int),dz s t (zs.set (s.size - (i+1)) (z:Nat)) (b:Nat) ((i+1+1:Nat):Int))→
    ∃ r:List Int×Int×Int,aA Tryz.prog (lb 137 eK) (dE s t zs c ((i+1:Nat):Int)) (dz s t zs c ((i+1:Nat):Int)) (.exit 0) (dE s t r.1 r.2.1 r.2.2) (dz s t r.1 r.2.1 r.2.2)∧r.1.length=s.size∧vY r.1=vS s - vS t:=by
   intro x y z b c7 dx ex ey ch hb ct G
   obtain ⟨r,aE,a1⟩:=c0 (i+1) b (zs.set (s.size - (i+1)) (z:Nat)) (by omega) (by rw [List.length_set];exact M) hb (by
    have J:=bD.out
    constructor
    rw [Pq _ _ _ a7 ch,M,show s.size - (s.size - (i+1)) - 1=i by omega,show s.size - (i+1)+1=s.size - i by omega,mod_succ,mod_succ,← ex,← ey,Nat.pow_succ]
    have a6:=congrArg (256 ^ i* ·) ct
    simp only [Nat.mul_add] at a6
    rw [← Nat.mul_assoc] at a6
    rw [Nat.mul_comm z]
    omega)
   exact ⟨r, .more (Oy G) aE,a1⟩
  have G:=NB s t zs c ((i+1:Nat):Int)
  have b3:(s.size:Int) - ((i+1:Nat):Int)=((s.size - (i+1):Nat):Int):=by omega
  have b4:i < t.size→(t.size:Int) - ((i+1:Nat):Int)=((t.size - (i+1):Nat):Int):=fun h=>by omega
  have b2:((i+1:Nat):Int)+1=((i+1+1:Nat):Int):=by omega
  have U:=Nat.mod_lt (vS s / 256 ^ i) (show 0 < 256 by decide)
  have Z:=Nat.mod_lt (vS t / 256 ^ i) (show 0 < 256 by decide)
  have b0:=xA s i b7
  have b1:=xA t i
  have c3:=C7 t i
  generalize vS s / 256 ^ i % 256=x at*
  generalize vS t / 256 ^ i % 256=y at*
  have q1:ah .i64 ((s.size - (i+1):Nat):Int)=true:=bB _ (by omega)
  have q2:ah .i64 ((i+1+1:Nat):Int)=true:=bB _ (by omega)
  rw [b3,b2,q1,q2,dT (show ((i+1:Nat):Int)≤s.size by omega),dT (show (0:Int)≤((s.size - (i+1):Nat):Int) by omega),dT (show ((s.size - (i+1):Nat):Int) < (zs.length:Int) by omega),dT (show ((s.size - (i+1):Nat):Int) < (s.size:Int) by omega),Int.toNat_natCast,Nat.zero_add,Nat.mul_one,dT a7,b0,bB x (by omega),aJ (show -9223372036854775808≤(x:Int) - c∧(x:Int) - c≤9223372036854775807 by omega)] at G
  by_cases bx:i < t.size
  ·rw [dT (show ((i+1:Nat):Int)≤t.size by omega),b4 bx,bB (t.size - (i+1)) (by omega),dT (show (0:Int)≤((t.size - (i+1):Nat):Int) by omega),dT (show ((t.size - (i+1):Nat):Int) < (t.size:Int) by omega),Int.toNat_natCast,b1 bx,bB y (by omega),aJ (show -9223372036854775808≤(x:Int) - c - y∧(x:Int) - c - y≤9223372036854775807 by omega)] at G
   by_cases O:(x:Int) - c - y < 0
   ·have I:(x:Int) - c - y+256=((x+256 - c - y:Nat):Int):=by omega
    rw [dT O,I,bB _ (by omega),kD,Nat.mod_eq_of_lt (by omega)] at G
    refine go x y (x+256 - c - y) 1 U Z rfl rfl (by omega) (by omega) (by omega) ?_
    rw [G]
    unfold dE dz
    rw [List.length_set]
    rfl
   ·have I:(x:Int) - c - y=((x - c - y:Nat):Int):=by omega
    rw [dF O,I,kD,Nat.mod_eq_of_lt (by omega)] at G
    refine go x y (x - c - y) 0 U Z rfl rfl (by omega) (by omega) (by omega) ?_
    rw [G]
    unfold dE dz
    rw [List.length_set]
    rfl
  ·have dy:=c3 (by omega)
   rw [dF (show ¬ ((i+1:Nat):Int)≤t.size by omega)] at G
   by_cases O:(x:Int) - c < 0
   ·have I:(x:Int) - c+256=((x+256 - c:Nat):Int):=by omega
    rw [dT O,I,bB _ (by omega),kD,Nat.mod_eq_of_lt (by omega)] at G
    refine go x y (x+256 - c) 1 U Z rfl rfl (by omega) (by omega) (by omega) ?_
    rw [G]
    unfold dE dz
    rw [List.length_set]
    rfl
   ·have I:(x:Int) - c=((x - c:Nat):Int):=by omega
    rw [dF O,I,kD,Nat.mod_eq_of_lt (by omega)] at G
    refine go x y (x - c) 0 U Z rfl rfl (by omega) (by omega) (by omega) ?_
    rw [G]
    unfold dE dz
    rw [List.length_set]
    rfl
theorem YF (s t:ByteArray) (zs:List Int) (c i:Int) (h:uY s t zs c i):∃ r:List Int×Int×Int,aA Tryz.prog (lb 137 eK) (dE s t zs c i) (dz s t zs c i) (.exit 0) (dE s t r.1 r.2.1 r.2.2) (dz s t r.1 r.2.1 r.2.2)∧DK s t zs c i r:=by
 obtain ⟨G,I,J,M,rfl,rfl⟩:=h
 obtain ⟨r,k1,O,U⟩:=abq s t G I J s.size 0 0 zs (by omega) M (by omega) ⟨by rw [Nat.sub_zero,List.drop_of_length_le (by omega),Pn];simp [Nat.mod_one]⟩
 exact ⟨r,k1,O,U⟩
def Gm (J:ByteArray→ByteArray→List Int→Int→Int→Bool) (G:ByteArray→ByteArray→List Int→Int→Int→List Int×Int×Int) (T:List AV) (H:Hp):Option (Bool×Ex×List AV×Hp):=
 match al T 0,al T 1,al T 5,al T 6,al T 7,H with
 | .val (.string s), .val (.string t), .sl false 5 0 0 I, .val (.int .i64 c), .val (.int .i64 i), [.row (.ints .u8 zs) 5 .live]=>bif T.length==55 then some (decide (I=zs.length)&&J s t zs c i, .exit 0,dE s t ((G s t zs c i).1) ((G s t zs c i).2.1) ((G s t zs c i).2.2),dz s t ((G s t zs c i).1) ((G s t zs c i).2.1) ((G s t zs c i).2.2)) else none
 | _,_,_,_,_,_=>none
abbrev AX:Type:=ByteArray→ByteArray→List Int→Int→Int→Bool
abbrev AD:Type:=ByteArray→ByteArray→List Int→Int→Int→List Int×Int×Int
def IF (G:AX) (I:AD) (L:aD):aD:=bu 0 137 eK [0,1,5,6,7] (Gm G I) L
def jW (s t:ByteArray) (zs:List Int) (c i:Int):List Int×Int×Int:=Classical.epsilon fun ρ=>aA Tryz.prog (lb 137 eK) (dE s t zs c i) (dz s t zs c i) (.exit 0) (dE s t (ρ.1) (ρ.2.1) (ρ.2.2)) (dz s t (ρ.1) (ρ.2.1) (ρ.2.2))∧DK s t zs c i ρ
theorem MQ (s t:ByteArray) (zs:List Int) (c i:Int) (h:uY s t zs c i):aA Tryz.prog (lb 137 eK) (dE s t zs c i) (dz s t zs c i) (.exit 0) (dE s t ((jW s t zs c i).1) ((jW s t zs c i).2.1) ((jW s t zs c i).2.2)) (dz s t ((jW s t zs c i).1) ((jW s t zs c i).2.1) ((jW s t zs c i).2.2))∧DK s t zs c i (jW s t zs c i):=Classical.epsilon_spec (YF s t zs c i h)
def th (s t:ByteArray) (zs:List Int) (c i:Int):Bool:= @decide (uY s t zs c i) (Classical.propDecidable _)
theorem Uu (s t:ByteArray) (zs:List Int) (c i:Int) (h:uY s t zs c i):th s t zs c i=true:= @decide_eq_true _ (Classical.propDecidable _) h
theorem adF (T:List AV) (H:Hp) (e:Ex) (J:List AV) (I:Hp) (h:Gm th jW T H=some (true,e,J,I)):V.Ends Tryz.prog false 0 0 (.loop (lb 137 eK)) T H e J I:=by
 unfold Gm at h
 split at h
 ·rename_i s t bD c i zs U Z ab aE a1
  rw [Bool.cond_eq_ite] at h
  split at h
  ·rename_i M
   rw [beq_iff_eq] at M
   simp only [Option.some.injEq,Prod.mk.injEq,Bool.and_eq_true,decide_eq_true_eq] at h
   obtain ⟨⟨k1,a7⟩,rfl,rfl,rfl⟩:=h
   have bx:= @of_decide_eq_true _ (Classical.propDecidable _) a7
   refine Ends.pre (MQ s t zs c i bx).1.ends (fun α B w D b0 a6=>bw M (fun p O y G=> ?_) a6)
   simp only [List.mem_cons,List.not_mem_nil,or_false] at O
   rcases O with rfl | rfl | rfl | rfl | rfl
   ·rw [U] at G;exact G
   ·rw [Z] at G;exact G
   ·rw [ab] at G;rw [← k1];exact G
   ·rw [aE] at G;exact G
   ·rw [a1] at G;exact G
  ·cases h
 ·cases h
theorem QB {L:aD} (h:aC Tryz.prog L):aC Tryz.prog (IF th jW L):=h.bC RP adF
def Hh (S:Sg) (G:AX) (I:AD):Env:= ⟨au 160 (og S) aM,az,IF G I aq⟩
theorem abp (S:Sg) (I:AX) (G:AD) (s t:ByteArray):aG Tryz.prog (Hh S I G) 10 10 137 [.val (.string s), .val (.string t)]=
  (bif decide ((↑s.size:Int)≤(↑s.size:Int))&&decide (1*(↑s.size:Int)≤281474976710656)&&decide ((↑s.size:Int)≤9223372036854775807) then (bif decide ((↑s.size:Int).toNat=(List.replicate (↑s.size:Int).toNat (0:Int)).length)&&I s t (List.replicate (↑s.size:Int).toNat (0:Int)) (0:Int) (1:Int) then (bif decide (0+(G s t (List.replicate (↑s.size:Int).toNat (0:Int)) (0:Int) (1:Int)).fst.length*1≤(G s t (List.replicate (↑s.size:Int).toNat (0:Int)) (0:Int) (1:Int)).fst.length) then some (.val (.string (S.mg (S.vs (ofBytes (List.take ((G s t (List.replicate (↑s.size:Int).toNat (0:Int)) (0:Int) (1:Int)).fst.length*1) (List.drop 0 (G s t (List.replicate (↑s.size:Int).toNat (0:Int)) (0:Int) (1:Int)).fst))))))) else none) else none) else none):=by kernel_rfl
def zI (S:Sg) (args:List AV):Option (Bool×AV):=match args with | [.val (.string s), .val (.string t)]=>some (S.ok s&&S.ok t&&decide (S.vs t≤S.vs s), .val (.string (S.mg (S.vs s - S.vs t)))) | _=>none
theorem J9:Entry Tryz.prog 137 (zI aa):=by
 refine aZ (E:=Hh aa th jW) (u:=10) (d:=10) ((aK _).add qJ) (QB aC.none).ok mixed (by kernel_rfl) (fun args r h=> ?_)
 unfold zI at h
 split at h
 ·rename_i s t
  simp only [Option.some.injEq,Prod.mk.injEq,Bool.and_eq_true,decide_eq_true_eq] at h
  obtain ⟨⟨⟨M,O⟩,U⟩,rfl⟩:=h
  have z1:=kP M
  have z2:=kP O
  have I:uY s t (List.replicate s.size 0) 0 1:= ⟨z1,z2,U,by simp,rfl,rfl⟩
  obtain ⟨_,c1,c2⟩:=MQ _ _ _ _ _ I
  have G:=abp aa th jW s t
  simp only [Int.toNat_natCast,List.length_replicate,eq_self,decide_true,Nat.mul_one,Nat.zero_add,List.drop_zero] at G
  rw [Uu _ _ _ _ _ I] at G
  generalize jW s t (List.replicate s.size 0) 0 1=q at*
  have J:aa.vs (ofBytes q.1)=aa.vs s - aa.vs t:=c2
  rw [dT (show (s.size:Int)≤(s.size:Int) by omega),dT (show (1:Int)*(s.size:Int)≤281474976710656 by omega),dT (show (s.size:Int)≤9223372036854775807 by omega),dT (show q.1.length≤q.1.length by omega),List.take_length,J] at G
  exact G
 ·cases h
end
end Go.Proofs.YtamcpiicmfielaaGreat.L
namespace Go.Proofs.YtamcpiicmfielaaGreat.L
open Go Go.V Go.RowKit Go.Proofs.YtamcpiicmfielaaGreat.Sp Go.Proofs.YtamcpiicmfielaaGreat.F Go.Proofs.YtamcpiicmfielaaGreatW.PrintWords
open Go.Proofs (Tryz.prog)
noncomputable section
theorem tZ (z:Int):aF (aa.ms z) (ByteArray.mk #[])=decide (z=0):=by
 show aF (av z.natAbs) _=_
 rw [qZ]
 exact decide_eq_decide.2 (by omega)
theorem LR {zs:List Int} {n:Nat} (h:zs.map (fun z=>UInt8.ofNat z.toNat)=toB n):ofBytes zs=av n:=by
 apply nA
 rw [o8]
 exact h
def zG (S:Sg) (args:List AV):Option (Bool×AV):=match args with | [.val (.int .i64 z)]=>some (decide (0≤z)&&decide (z≤9223372036854775807), .val (.string (S.mg z.toNat))) | _=>none
theorem VT:Entry Tryz.prog 159 (zG aa):=by
 refine aZ (E:=Hb tb jU) (u:=10) (d:=10) (aK _) (Qw aC.none).ok mixed (by kernel_rfl) (fun args r h=> ?_)
 unfold zG at h
 split at h
 ·rename_i z
  simp only [Option.some.injEq,Prod.mk.injEq,Bool.and_eq_true,decide_eq_true_eq] at h
  obtain ⟨⟨J,ab⟩,rfl⟩:=h
  obtain ⟨n,rfl⟩:=Int.eq_ofNat_of_zero_le J
  rw [Int.toNat_natCast]
  have G:=aaR tb jU (n:Int)
  by_cases M:n < 256
  ·rw [dT (show (n:Int) < 256 by omega)] at G
   by_cases I:n=0
   ·subst I
    rw [dT (show ((0:Nat):Int)=0 from rfl)] at G
    rw [G]
    show _=some (AV.val (.string (av 0)))
    unfold av
    rw [toB_zero]
    rfl
   ·rw [dF (show ¬ (n:Int)=0 by omega)] at G
    rw [G]
    show some (AV.val (.string (ofBytes [IntKind.u8.wrap (n:Int)])))=some (AV.val (.string (av n)))
    rw [LR (n:=n)]
    rw [toB_pos I,Nat.div_eq_of_lt M,toB_zero,List.nil_append,kD,Nat.mod_eq_of_lt M]
    rfl
  ·have O:uT (n:Int) 8 [0,0,0,0,0,0,0,0]:= ⟨J,ab,rfl,rfl⟩
   obtain ⟨_,k,e1,aE,U,Z⟩:=ML _ _ _ O
   rw [dF (show ¬ (n:Int) < 256 by omega),Up _ _ _ O] at G
   generalize jU (n:Int) 8 [0,0,0,0,0,0,0,0]=r at*
   rw [e1,U,dT (show 8≤8 by omega),dT (show (0:Int)≤(k:Int) by omega),dT (show (k:Int)≤8 by omega),Int.toNat_natCast,dT (show 0+k*1+(8 - k)*1≤8 by omega)] at G
   rw [G]
   show some (AV.val (.string (ofBytes _)))=some (AV.val (.string (av n)))
   rw [LR (n:=n)]
   rw [Nat.zero_add,Nat.mul_one,Nat.mul_one,List.take_of_length_le (by rw [List.length_drop];omega)]
   exact Z
 ·cases h
theorem aa1 (S:Sg) (z:Int):aG Tryz.prog ⟨au 159 (zG S) aM,az,aq⟩ 10 10 124 [.val (.int .i64 z)]=
  (bif decide (0≤z) then (bif decide (0≤z)&&decide (z≤9223372036854775807) then some (.agg [(.val (.bool false)),(.val (.string (S.mg z.toNat)))]) else none) else (bif decide (z=IntKind.i64.wrap (0 - z)) then some (.agg [(.val (.bool true)),(.val (.string (ByteArray.mk #[(128:UInt8),(0:UInt8),(0:UInt8),(0:UInt8),(0:UInt8),(0:UInt8),(0:UInt8),(0:UInt8)])))]) else (bif decide (0≤IntKind.i64.wrap (0 - z))&&decide (IntKind.i64.wrap (0 - z)≤9223372036854775807) then some (.agg [(.val (.bool true)),(.val (.string (S.mg (IntKind.i64.wrap (0 - z)).toNat)))]) else none))):=by kernel_rfl
theorem Y3:ByteArray.mk #[(128:UInt8),(0:UInt8),(0:UInt8),(0:UInt8),(0:UInt8),(0:UInt8),(0:UInt8),(0:UInt8)]=av 9223372036854775808:=
 (tX (ByteArray.mk #[(128:UInt8),(0:UInt8),(0:UInt8),(0:UInt8),(0:UInt8),(0:UInt8),(0:UInt8),(0:UInt8)]) (by show ¬ (128:UInt8)=0;decide)).symm
theorem W0 {z:Int} (h:z < 0):aa.int z= .agg [.val (.bool true), .val (.string (aa.mg z.natAbs))]:=by
 unfold Sg.int
 rw [dj,decide_eq_true h];rfl
theorem tM {z:Int} (h:0≤z):aa.int z= .agg [.val (.bool false), .val (.string (aa.mg z.natAbs))]:=by
 unfold Sg.int
 rw [dj,decide_eq_false (by omega)];rfl
theorem tA:Entry Tryz.prog 124 (kC aa):=by
 refine aZ (E:= ⟨au 159 (zG aa) aM,az,aq⟩) (u:=10) (d:=10) ((aK _).add VT) aO mixed (by kernel_rfl) (fun args r h=> ?_)
 unfold kC at h
 split at h
 ·rename_i z
  simp only [Option.some.injEq,Prod.mk.injEq] at h
  obtain ⟨J,rfl⟩:=h
  unfold cW at J
  simp only [Bool.and_eq_true,decide_eq_true_eq] at J
  have G:=aa1 aa z
  by_cases I:0≤z
  ·rw [dT I,dT J.2] at G
   rw [G,tM I,show z.toNat=z.natAbs by omega]
   rfl
  ·rw [dF I] at G
   rw [W0 (by omega)]
   by_cases M:z= -9223372036854775808
   ·subst M
    rw [dT (show (-9223372036854775808:Int)=IntKind.i64.wrap (0 - -9223372036854775808) by rw [IntKind.wrap_i64];decide)] at G
    rw [G,Y3]
    rfl
   ·have O:IntKind.i64.wrap (0 - z)= -z:=by rw [IntKind.wrap_i64];omega
    rw [O,dF (show ¬ z= -z by omega),dT (show 0≤ -z by omega),dT (show -z≤9223372036854775807 by omega)] at G
    rw [G,show (-z).toNat=z.natAbs by omega]
    rfl
 ·cases h
theorem Y7 (z:Int):aa.ms (-z)=aa.ms z:=by
 show av (-z).natAbs=av z.natAbs
 rw [Int.natAbs_neg]
theorem Cd:Entry Tryz.prog 127 (kX aa):=by
 refine aZ (E:= ⟨au 130 (oa aa) aM,az,aq⟩) (u:=10) (d:=10) ((aK _).add tw) aO mixed (by kernel_rfl) (fun args r h=> ?_)
 unfold kX at h
 split at h
 ·rename_i b s
  simp only [Option.some.injEq,Prod.mk.injEq] at h
  obtain ⟨M,rfl⟩:=h
  have J:=aa0 aa b s
  generalize aa.val b s=z at*
  rw [tZ,dj] at J
  rw [J]
  unfold Sg.int
  rw [Y7,dj]
  by_cases G:z < 0
  ·rw [dT G,dF (show ¬ -z < 0 by omega)];rfl
  ·rw [dF G]
   by_cases I:z=0
   ·rw [dT I,dF (show ¬ -z < 0 by omega)];rfl
   ·rw [dF I,dT (show -z < 0 by omega)];rfl
 ·cases h
end
end Go.Proofs.YtamcpiicmfielaaGreat.L
namespace Go.Proofs.YtamcpiicmfielaaGreat.L
open Go Go.V Go.RowKit Go.Proofs.YtamcpiicmfielaaGreat.Sp Go.Proofs.YtamcpiicmfielaaGreat.F Go.Proofs.YtamcpiicmfielaaGreatW.PrintWords
open Go.Proofs (Tryz.prog)
noncomputable section
theorem Ld:∀ (l m:List UInt8),l.length=m.length→(Op.bytesLess l m=true↔vB l < vB m)
 | [], [],_=>by simp [Op.bytesLess]
 | [],_ :: _,h=>by simp at h
 | _ :: _, [],h=>by simp at h
 | a :: x,b :: y,h=>by
  have J:x.length=y.length:=by simpa using h
  have Z:=Ld x y J
  have U:=oh x
  have ab:=oh y
  rw [kZ,kZ,J]
  rw [J] at U
  unfold Op.bytesLess
  rw [Bool.or_eq_true,Bool.and_eq_true,decide_eq_true_eq,beq_iff_eq,Z]
  have M:a < b↔a.toNat < b.toNat:=UInt8.lt_iff_toNat_lt
  have O:a=b↔a.toNat=b.toNat:= ⟨fun h=>h ▸ rfl,fun h=>UInt8.toNat_inj.1 h⟩
  rw [M,O]
  generalize 256 ^ y.length=B at*
  generalize a.toNat=p at*
  generalize b.toNat=q at*
  constructor
  ·rintro (I | ⟨I,G⟩)
   ·have:=Nat.mul_le_mul_right B (show p+1≤q by omega)
    rw [Nat.add_mul] at this
    omega
   ·subst I;omega
  ·intro I
   rcases Nat.lt_trichotomy p q with G | G | G
   ·exact Or.inl G
   ·subst G;exact Or.inr ⟨rfl,by omega⟩
   ·have:=Nat.mul_le_mul_right B (show q+1≤p by omega)
    rw [Nat.add_mul] at this
    omega
def vR (S:Sg) (args:List AV):Option (Bool×AV):=match args with | [.val (.string s), .val (.string t)]=>some (aF s (S.mg (S.vs s))&&aF t (S.mg (S.vs t)), .val (.int .i64 (S.cmp (S.vs s) (S.vs t)))) | _=>none
theorem LB {n m:Nat} (h:(av n).size < (av m).size):n < m:=by
 rw [kW,kW] at h
 rcases Nat.lt_or_ge n m with G | G
 ·exact G
 ·have:=dH G
  unfold bs at this
  omega
theorem Cc:Entry Tryz.prog 133 (vR aa):=by
 refine aZ (E:=np) (u:=10) (d:=10) (aK _) aO mixed (by kernel_rfl) (fun args r h=> ?_)
 unfold vR at h
 split at h
 ·rename_i s t
  simp only [Option.some.injEq,Prod.mk.injEq,Bool.and_eq_true] at h
  obtain ⟨⟨I,J⟩,rfl⟩:=h
  rw [r4] at I J
  have I:s=av (vS s):=of_decide_eq_true I
  have J:t=av (vS t):=of_decide_eq_true J
  have U:=aaD s t
  show _=some (AV.val (.int .i64 (cu (vS s) (vS t))))
  rw [U]
  generalize vS s=n at*
  generalize vS t=m at*
  subst I J
  by_cases O:((av n).size:Int)=((av m).size:Int)
  ·rw [dT O]
   have ab:(toB n).length=(toB m).length:=by rw [← kW,← kW];omega
   have aE:V.strLt (av n) (av m)=decide (n < m):=by
    rw [Bool.eq_iff_iff]
    show Op.bytesLess (av n).data.toList (av m).data.toList=true↔_
    rw [o8,o8,Ld _ _ ab,zT,zT,decide_eq_true_eq]
   have Z:aF (av n) (av m)=decide (n=m):=by
    rw [r4]
    refine decide_eq_decide.2 ⟨fun h=> ?_,fun h=>h ▸ rfl⟩
    have:=congrArg vS h
    rw [jg,jg] at this
    exact this
   rw [aE,Z]
   unfold cu
   by_cases G:n < m
   ·rw [dT G,if_pos G];rfl
   ·rw [dF G,if_neg G]
    by_cases M:n=m
    ·rw [dT M,if_neg (by omega)];rfl
    ·rw [dF M,if_pos (by omega)];rfl
  ·rw [dF O]
   unfold cu
   by_cases G:((av n).size:Int) < ((av m).size:Int)
   ·rw [dT G,if_pos (LB (by omega))];rfl
   ·rw [dF G]
    have M:m < n:=LB (by omega)
    rw [if_neg (by omega),if_pos M];rfl
 ·cases h
def GY (S:Sg):FuncId→List AV→Option (Bool×AV):=au 130 (oa S) (au 133 (vR S) aM)
def Aa (S:Sg):FuncId→List AV→Option (Bool×AV):=au 130 (oa S) (au 133 (vR S) (au 136 (zD S) (au 137 (zI S) (au 131 (zJ S) (au 124 (kC S) aM)))))
theorem aaB (S:Sg) (b c:Bool) (s t:ByteArray):aG Tryz.prog ⟨GY S,az,aq⟩ 10 10 97 [.agg [.val (.bool b), .val (.string s)], .agg [.val (.bool c), .val (.string t)]]=
  (bif bif true then !S.ng (S.val b s)==S.ng (S.val c t) else S.ng (S.val b s)==S.ng (S.val c t) then (bif S.ng (S.val b s) then some (.val (.int .i64 (-1))) else some (.val (.int .i64 1))) else (bif S.ng (S.val b s) then (bif aF (S.ms (S.val c t)) (S.mg (S.vs (S.ms (S.val c t))))&&aF (S.ms (S.val b s)) (S.mg (S.vs (S.ms (S.val b s)))) then some (.val (.int .i64 (S.cmp (S.vs (S.ms (S.val c t))) (S.vs (S.ms (S.val b s)))))) else none) else (bif aF (S.ms (S.val b s)) (S.mg (S.vs (S.ms (S.val b s))))&&aF (S.ms (S.val c t)) (S.mg (S.vs (S.ms (S.val c t)))) then some (.val (.int .i64 (S.cmp (S.vs (S.ms (S.val b s))) (S.vs (S.ms (S.val c t)))))) else none))):=by kernel_rfl
theorem aau (S:Sg) (b c:Bool) (s t:ByteArray):letI I:Option AV:=(bif bif false then !S.ng (S.val b s)==S.ng (S.val c t) else S.ng (S.val b s)==S.ng (S.val c t) then (bif S.ok (S.ms (S.val b s))&&S.ok (S.ms (S.val c t)) then some (.agg [(.val (.bool (S.ng (S.val b s)))),(.val (.string (S.mg (S.vs (S.ms (S.val b s))+S.vs (S.ms (S.val c t))))))]) else none) else (bif aF (S.ms (S.val b s)) (S.mg (S.vs (S.ms (S.val b s))))&&aF (S.ms (S.val c t)) (S.mg (S.vs (S.ms (S.val c t)))) then (bif decide (S.cmp (S.vs (S.ms (S.val b s))) (S.vs (S.ms (S.val c t)))=0) then some (.agg [(.val (.bool false)),(.val (.string (ByteArray.mk #[])))]) else (bif decide (0 < S.cmp (S.vs (S.ms (S.val b s))) (S.vs (S.ms (S.val c t)))) then (bif S.ok (S.ms (S.val b s))&&S.ok (S.ms (S.val c t))&&decide (S.vs (S.ms (S.val c t))≤S.vs (S.ms (S.val b s))) then some (.agg [(.val (.bool (S.ng (S.val b s)))),(.val (.string (S.mg (S.vs (S.ms (S.val b s)) - S.vs (S.ms (S.val c t))))))]) else none) else (bif S.ok (S.ms (S.val c t))&&S.ok (S.ms (S.val b s))&&decide (S.vs (S.ms (S.val b s))≤S.vs (S.ms (S.val c t))) then some (.agg [(.val (.bool (S.ng (S.val c t)))),(.val (.string (S.mg (S.vs (S.ms (S.val c t)) - S.vs (S.ms (S.val b s))))))]) else none))) else none));letI G:=(S.val (S.ng (S.val b s)) (S.ms (S.val b s))+S.val (S.ng (S.val c t)) (S.ms (S.val c t)));
  (aG Tryz.prog ⟨Aa S,az,aq⟩ 10 10 102 [.agg [.val (.bool b), .val (.string s)], .agg [.val (.bool c), .val (.string t)]]=(bif decide ((↑(S.ms (S.val b s)).size:Int) < 8) then (bif decide ((↑(S.ms (S.val c t)).size:Int) < 8) then (bif decide ((S.ms (S.val b s)).size≤8)&&decide (S.vs (S.ms (S.val b s)) < 9223372036854775808) then (bif decide ((S.ms (S.val c t)).size≤8)&&decide (S.vs (S.ms (S.val c t)) < 9223372036854775808) then (bif ah IntKind.i64 G then (bif cW G then some (.agg [(.val (.bool (S.ng G))),(.val (.string (S.ms G)))]) else none) else none) else none) else none) else I) else I)):=by kernel_rfl
theorem abo (S:Sg) (b c:Bool) (s t:ByteArray):aG Tryz.prog ⟨au 102 (kB S) (au 127 (kX S) aM),az,aq⟩ 10 10 163 [.agg [.val (.bool b), .val (.string s)], .agg [.val (.bool c), .val (.string t)]]=
  (bif S.ok t then (bif S.ok s&&S.ok (S.ms (-S.val c t)) then some (.agg [(.val (.bool (S.ng (S.val b s+S.val (S.ng (-S.val c t)) (S.ms (-S.val c t)))))),(.val (.string (S.ms (S.val b s+S.val (S.ng (-S.val c t)) (S.ms (-S.val c t))))))]) else none) else none):=by kernel_rfl
theorem Ji (z:Int):aF (aa.ms z) (aa.mg z.natAbs)=true:=kA _
theorem ua {x y:Int} (h:x < 0↔y < 0):(aa.ng x==aa.ng y)=true:=by
 rw [dj,dj,decide_eq_decide.2 h,beq_self_eq_true]
theorem uc {x y:Int} (h:¬ (x < 0↔y < 0)):(aa.ng x==aa.ng y)=false:=by
 rw [dj,dj]
 by_cases G:x < 0 <;> by_cases I:y < 0
 ·exact absurd ⟨fun _=>I,fun _=>G⟩ h
 ·rw [dT G,dF I];rfl
 ·rw [dF G,dT I];rfl
 ·exact absurd ⟨fun k=>absurd k G,fun k=>absurd k I⟩ h
theorem int_eq {z:Int} {b:Bool} {n:Nat} (hb:b=decide (z < 0)) (G:n=z.natAbs):AV.agg [.val (.bool b), .val (.string (aa.mg n))]=aa.int z:=by
 unfold Sg.int
 rw [dj,hb,G];rfl
theorem rh {x z:Int} (h:x < 0↔z < 0):aa.ng x=decide (z < 0):=by rw [dj];exact decide_eq_decide.2 h
theorem w7 (a b:Nat):aa.cmp a b=0↔a=b:=by
 show cu a b=0↔_
 unfold cu
 split <;> (try split) <;> omega
theorem w9 (a b:Nat):0 < aa.cmp a b↔b < a:=by
 show 0 < cu a b↔_
 unfold cu
 split <;> (try split) <;> omega
theorem J3:Entry Tryz.prog 97 (oc aa):=by
 refine aZ (E:= ⟨GY aa,az,aq⟩) (u:=10) (d:=10) (((aK _).add Cc).add tw) aO mixed (by kernel_rfl) (fun args r h=> ?_)
 unfold oc at h
 split at h
 ·rename_i b s c t
  simp only [Option.some.injEq,Prod.mk.injEq] at h
  obtain ⟨M,rfl⟩:=h
  have I:=aaB aa b c s t
  generalize aa.val b s=x at*
  generalize aa.val c t=y at*
  simp only [v7,Ji] at I
  rw [I]
  by_cases J:x < 0↔y < 0
  ·rw [ua J]
   by_cases G:x < 0
   ·rw [dj x,dT G]
    refine congrArg (fun z=>some (AV.val (.int .i64 z))) ?_
    show cu y.natAbs x.natAbs=cQ x y
    unfold cu cQ
    split <;> split <;> (try split) <;> (try split) <;> omega
   ·rw [dj x,dF G]
    refine congrArg (fun z=>some (AV.val (.int .i64 z))) ?_
    show cu x.natAbs y.natAbs=cQ x y
    unfold cu cQ
    split <;> split <;> (try split) <;> (try split) <;> omega
  ·rw [uc J]
   by_cases G:x < 0
   ·rw [dj x,dT G]
    refine congrArg (fun z=>some (AV.val (.int .i64 z))) ?_
    show -1=cQ x y
    unfold cQ
    split <;> (try split) <;> omega
   ·rw [dj x,dF G]
    refine congrArg (fun z=>some (AV.val (.int .i64 z))) ?_
    show 1=cQ x y
    unfold cQ
    split <;> (try split) <;> omega
 ·cases h
theorem vF {n:Nat} (h:bs n < 8):n < 72057594037927936:=
 Nat.lt_of_lt_of_le (nz n) (show 256 ^ bs n≤256 ^ 7 from Nat.pow_le_pow_right (by decide) (by omega))
theorem PL:bf Tryz.prog (Aa aa):=((((((aK _).add tA).add Ka).add J9).add J1).add Cc).add tw
theorem Cb:Entry Tryz.prog 102 (kB aa):=by
 refine aZ (E:= ⟨Aa aa,az,aq⟩) (u:=10) (d:=10) PL aO mixed (by kernel_rfl) (fun args r h=> ?_)
 unfold kB at h
 split at h
 ·rename_i b s c t
  simp only [Option.some.injEq,Prod.mk.injEq,Bool.and_eq_true] at h
  obtain ⟨⟨ab,aE⟩,rfl⟩:=h
  have M:=aau aa b c s t
  have U:=Nat.le_trans (dI b s) (kP ab)
  have Z:=Nat.le_trans (dI c t) (kP aE)
  generalize aa.val b s=x at*
  generalize aa.val c t=y at*
  simp only [v7,Ji,vD,eW] at M
  rw [bS U,bS Z] at M
  rw [M]
  clear M
  by_cases a6:(bs x.natAbs:Int) < 8∧(bs y.natAbs:Int) < 8
  ·obtain ⟨g1,g2⟩:=a6
   have k1:=vF (show bs x.natAbs < 8 by omega)
   have a7:=vF (show bs y.natAbs < 8 by omega)
   rw [dT g1,dT g2,dT (show bs x.natAbs≤8 by omega),dT (show bs y.natAbs≤8 by omega),dT (show x.natAbs < 9223372036854775808 by omega),dT (show y.natAbs < 9223372036854775808 by omega),aJ (show -9223372036854775808≤x+y∧x+y≤9223372036854775807 by omega)]
   unfold cW
   rw [dT (show -9223372036854775808≤x+y by omega),dT (show x+y≤9223372036854775807 by omega)]
   rfl
  ·have h':¬ ((bs x.natAbs:Int) < 8)∨((bs x.natAbs:Int) < 8∧¬ (bs y.natAbs:Int) < 8):=by omega
   rcases h' with O | ⟨O,a1⟩
   ·rw [dF O]
    by_cases J:x < 0↔y < 0
    ·rw [ua J]
     exact congrArg some (int_eq (rh (by omega)) (by omega))
    ·rw [uc J]
     by_cases G:x.natAbs=y.natAbs
     ·rw [dT ((w7 _ _).2 G),show x+y=0 by omega]
      unfold Sg.int
      rw [lA]
      rfl
     ·rw [dF (fun h=>G ((w7 _ _).1 h))]
      by_cases I:y.natAbs < x.natAbs
      ·rw [dT ((w9 _ _).2 I),dT (show y.natAbs≤x.natAbs by omega)]
       exact congrArg some (int_eq (rh (by omega)) (by omega))
      ·rw [dF (fun h=>I ((w9 _ _).1 h)),dT (show x.natAbs≤y.natAbs by omega)]
       exact congrArg some (int_eq (rh (by omega)) (by omega))
   ·rw [dT O,dF a1]
    by_cases J:x < 0↔y < 0
    ·rw [ua J]
     exact congrArg some (int_eq (rh (by omega)) (by omega))
    ·rw [uc J]
     by_cases G:x.natAbs=y.natAbs
     ·rw [dT ((w7 _ _).2 G),show x+y=0 by omega]
      unfold Sg.int
      rw [lA]
      rfl
     ·rw [dF (fun h=>G ((w7 _ _).1 h))]
      by_cases I:y.natAbs < x.natAbs
      ·rw [dT ((w9 _ _).2 I),dT (show y.natAbs≤x.natAbs by omega)]
       exact congrArg some (int_eq (rh (by omega)) (by omega))
      ·rw [dF (fun h=>I ((w9 _ _).1 h)),dT (show x.natAbs≤y.natAbs by omega)]
       exact congrArg some (int_eq (rh (by omega)) (by omega))
 ·cases h
theorem VY:Entry Tryz.prog 163 (r9 aa):=by
 refine aZ (E:= ⟨au 102 (kB aa) (au 127 (kX aa) aM),az,aq⟩) (u:=10) (d:=10) (((aK _).add Cd).add Cb) aO mixed (by kernel_rfl) (fun args r h=> ?_)
 unfold r9 at h
 split at h
 ·rename_i b s c t
  simp only [Option.some.injEq,Prod.mk.injEq,Bool.and_eq_true] at h
  obtain ⟨⟨M,I⟩,rfl⟩:=h
  have G:=abo aa b c s t
  have J:=Nat.le_trans (dI c t) (kP I)
  simp only [eW] at G
  rw [M,I,bS (z:= -aa.val c t) (by rw [Int.natAbs_neg];exact J)] at G
  rw [G,Int.sub_eq_add_neg]
  rfl
 ·cases h
end
end Go.Proofs.YtamcpiicmfielaaGreat.L
namespace Go.Proofs.YtamcpiicmfielaaGreat.L
open Go Go.V Go.RowKit Go.Proofs.YtamcpiicmfielaaGreat.Sp Go.Proofs.YtamcpiicmfielaaGreat.F Go.Proofs.YtamcpiicmfielaaGreatW.PrintWords
open Go.Proofs (Tryz.prog)
noncomputable section
abbrev gi:List Bool:= [false,true,false,true,false,false,true,false,false,true,false,true,true]
def iW (s t:ByteArray) (zs:List Int) (i c j:Int):List AV:=ao 87 [(0, .val (.string s)),(1, .val (.string t)),(5, .sl false 3 0 0 zs.length),(6, .val (.int .i64 i)),(7, .val (.int .i64 c)),(8, .val (.int .i64 j))]
def iy (s t:ByteArray) (zs:List Int) (i c j:Int):Hp:= [.row (.ints .i64 zs) 3 .live]
theorem RM:aI Tryz.prog 132 gi=some (.loop (lb 132 gi)):=by kernel_rfl
theorem Tx:aI Tryz.prog 132 (false :: gi)=some (lb 132 gi):=by kernel_rfl
theorem Ny (s t:ByteArray) (zs:List Int) (i c j:Int):letI G:=(zs.getD (0+(i+j+1).toNat*1) 0+aT s i.toNat*aT t j.toNat);
  (aP Tryz.prog bg 132 [0,1,5,6,7,8] (lb 132 gi) (false :: gi) (iW s t zs i c j) (iy s t zs i c j)=(bif decide (0≤j) then (bif ah IntKind.i64 (i+j) then (bif ah IntKind.i64 (i+j+1) then (bif decide (0≤i+j+1)&&decide (i+j+1 < (↑zs.length:Int)) then (bif decide (0+(i+j+1).toNat*1 < zs.length) then (bif decide (0≤i)&&decide (i < (↑s.size:Int)) then (bif ah IntKind.i64 (aT s i.toNat) then (bif decide (0≤j)&&decide (j < (↑t.size:Int)) then (bif ah IntKind.i64 (aT t j.toNat) then (bif ah IntKind.i64 (aT s i.toNat*aT t j.toNat) then (bif ah IntKind.i64 G then (bif ah IntKind.i64 (c+G) then (bif ah IntKind.i64 (i+j) then (bif ah IntKind.i64 (i+j+1) then (bif decide (0≤i+j+1)&&decide (i+j+1 < (↑zs.length:Int)) then (bif decide (0+(i+j+1).toNat*1 < zs.length) then (bif ah IntKind.i64 (j - 1) then some (.normal,ao 87 [(0,(.val (.string s))),(1,(.val (.string t))),(5,(.sl false 3 0 0 zs.length)),(6,(.val (.int .i64 i))),(7,(.val (.int .i64 ((c+G).fdiv (256:Int))))),(8,(.val (.int .i64 (j - 1))))], [(.row (.ints .i64 (zs.set (0+(i+j+1).toNat*1) (b9 BinOp.and IntKind.i64 (c+G) (255:Int)))) 3 .live)]) else none) else none) else none) else none) else none) else none) else none) else none) else none) else none) else none) else none) else none) else none) else none) else none) else some ((.exit 2),ao 87 [(0,(.val (.string s))),(1,(.val (.string t))),(5,(.sl false 3 0 0 zs.length)),(6,(.val (.int .i64 i))),(7,(.val (.int .i64 c))),(8,(.val (.int .i64 j)))], [(.row (.ints .i64 zs) 3 .live)]))):=by kernel_rfl
theorem Ov {s t:ByteArray} {zs:List Int} {i c j:Int} {e:Ex} {T:List AV} {H:Hp} (h:aP Tryz.prog bg 132 [0,1,5,6,7,8] (lb 132 gi) (false :: gi) (iW s t zs i c j) (iy s t zs i c j)=some (e,T,H)):V.Ends Tryz.prog false 0 0 (lb 132 gi) (iW s t zs i c j) (iy s t zs i c j) e T H:=
 bK (aK _) aO mixed Tx h
def jO (zs:List Int):Prop:=∀ z ∈ zs,0≤z∧z < 256
theorem LZ {zs:List Int} (h:jO zs) (p x:Nat) (J:x < 256):jO (zs.set p (x:Int)):=by
 intro z I
 rcases List.mem_or_eq_of_mem_set I with G | G
 ·exact h z G
 ·subst G;omega
theorem KF {l:List Int} (h:jO l) (i:Nat) (hi:i < l.length):∃ a:Nat,a < 256∧l[i]? =some (a:Int)∧l.getD i 0=(a:Int):=by
 have G:=h l[i] (List.getElem_mem hi)
 obtain ⟨a,ha⟩:=Int.eq_ofNat_of_zero_le G.1
 refine ⟨a,by omega, ?_, ?_⟩
 ·rw [List.getElem?_eq_getElem hi,ha]
 ·rw [List.getD_eq_getElem?_getD,List.getElem?_eq_getElem hi,ha];rfl
theorem sh (a:Int) (l:List Int):vY (a :: l)=(UInt8.ofNat a.toNat).toNat*256 ^ l.length+vY l:=by
 unfold vY
 rw [List.map_cons,kZ,List.length_map]
theorem Ph {a:Nat} (h:a < 256):(UInt8.ofNat ((a:Int)).toNat).toNat=a:=by
 rw [Int.toNat_natCast,UInt8.toNat_ofNat'];omega
theorem Po (z x:Nat) (I:z < 256) (G:x < 256):∀ (l:List Int) (q:Nat),l[q]? =some (z:Int)→vY (l.set q (x:Int))+z*256 ^ (l.length - q - 1)=vY l+x*256 ^ (l.length - q - 1)
 | [],q,h=>by simp at h
 | a :: l,0,h=>by
  have ha:a=(z:Int):=by simpa using h
  subst ha
  rw [List.set_cons_zero,sh,sh,Ph I,Ph G]
  simp only [List.length_cons,Nat.sub_zero,Nat.add_sub_cancel]
  omega
 | a :: l,q+1,h=>by
  have J:=Po z x I G l q (by simpa using h)
  rw [List.set_cons_succ,sh,sh,List.length_set]
  have e:(a :: l).length - (q+1) - 1=l.length - q - 1:=by simp only [List.length_cons];omega
  rw [e]
  omega
theorem Pp (z x:Nat) (I:z < 256) (G:x < 256) (l:List Int) (p k:Nat) (J:k≤p) (h:l[p]? =some (z:Int)):vY ((l.set p (x:Int)).drop k)+z*256 ^ (l.length - p - 1)=vY (l.drop k)+x*256 ^ (l.length - p - 1):=by
 have e:(l.set p (x:Int)).drop k=(l.drop k).set (p - k) (x:Int):=by
  rw [List.drop_set,if_neg (by omega)]
 have:=Po z x I G (l.drop k) (p - k) (by rw [List.getElem?_drop,show k+(p - k)=p by omega];exact h)
 rw [List.length_drop,show l.length - k - (p - k) - 1=l.length - p - 1 by omega] at this
 rw [e];exact this
theorem QY (v:Nat) (h:v < 65536):b9 .and .i64 (v:Int) 255=((v % 256:Nat):Int):=by
 have e:Go.bits .and .i64 (v:Int) (2 ^ 8 - 1)=(v:Int) % 2 ^ 8:=bits_mask .i64 63 (by decide) (fun n I J=>by rw [IntKind.wrap_i64];omega) 8 (by decide) (v:Int) (by omega) (by omega)
 have G:b9 .and .i64 (v:Int) 255=(v:Int) % 256:=e
 rw [G];omega
theorem aaV {A G P v z c x y Y:Nat} (O:G+z*P=A+v % 256*P) (I:v=c+(z+x*y)):G+v / 256*(256*P)+x*Y*(256*P)=A+c*P+x*(Y*256+y)*P:=by
 have e:v % 256*P+v / 256*(256*P)=v*P:=by
  rw [← Nat.mul_assoc,← Nat.add_mul,Nat.mul_comm (v / 256),Nat.mod_add_div]
 have J:v*P=c*P+z*P+x*y*P:=by rw [I,Nat.add_mul,Nat.add_mul,Nat.add_assoc]
 have M:x*(Y*256+y)*P=x*Y*(256*P)+x*y*P:=by grind
 omega
theorem aaU (s t:ByteArray) (c5:s.size≤8796093022208) (c6:t.size≤8796093022208) (i:Nat) (hi:i < s.size) (x:Nat) (c7:x < 256) (ch:aT s i=(x:Int)) (d:Nat):∀ (c:Nat) (zs:List Int),d≤t.size→zs.length=s.size+t.size→jO zs→c < 256→
  ∃ r:List Int×Int×Int,aA Tryz.prog (lb 132 gi) (iW s t zs i c ((d:Int) - 1)) (iy s t zs i c ((d:Int) - 1)) (.exit 2) (iW s t r.1 i r.2.1 r.2.2) (iy s t r.1 i r.2.1 r.2.2)∧r.1.length=s.size+t.size∧jO r.1∧(∀ k:Nat,k≤i→r.1[k]? =zs[k]?)∧
   ∃ c2:Nat,r.2.1=(c2:Int)∧c2 < 256∧vY (r.1.drop (i+1))+c2*256 ^ (s.size+t.size - (i+1))=vY (zs.drop (i+1))+c*256 ^ (s.size+t.size - (i+d+1))+x*vB (t.data.toList.take d)*256 ^ (s.size+t.size - (i+d+1)):=by
 induction d with
 | zero=>
  intro c zs b2 G I O
  refine ⟨(zs,(c:Int),((0:Nat):Int) - 1), .last (Ov ?_) (by intro h;cases h),G,I,fun _ _=>rfl,c,rfl,O, ?_⟩
  ·rw [Ny,dF (show ¬ (0:Int)≤((0:Nat):Int) - 1 by decide)];rfl
  ·rw [List.take_zero]
   show _=_+_+x*0*_
   rw [Nat.mul_zero,Nat.zero_mul];rfl
 | succ d c4=>
  intro c zs b2 G I O
  obtain ⟨z,ct,c0,c3⟩:=KF I (i+d+1) (by omega)
  have hb:=lj t d
  obtain ⟨y,M⟩:∃ y:Nat,aT t d=y:= ⟨(aT t d).toNat,by omega⟩
  rw [M] at hb
  have dx:x*y≤255*255:=Nat.mul_le_mul (by omega) (by omega)
  have b7:c+(z+x*y) < 65536:=by omega
  obtain ⟨r,a1,a6,a7,bx,c2,bD,b0,b1⟩:=c4 ((c+(z+x*y)) / 256) (zs.set (i+d+1) (((c+(z+x*y)) % 256:Nat):Int)) (by omega) (by rw [List.length_set];exact G) (LZ I _ _ (Nat.mod_lt _ (by decide))) (by omega)
  refine ⟨r, .more (Ov ?_) a1,a6,a7, ?_,c2,bD,b0, ?_⟩
  ·have J:=Ny s t zs i c (d:Int)
   have Z:((i:Int)+(d:Int)+1)=((i+d+1:Nat):Int):=by omega
   rw [Z,Int.toNat_natCast,Int.toNat_natCast,Int.toNat_natCast,Nat.zero_add,Nat.mul_one,c3,ch,M] at J
   have ab:((c:Int)+((z:Int)+(x:Int)*(y:Int)))=((c+(z+x*y):Nat):Int):=by rw [Int.natCast_add,Int.natCast_add,Int.natCast_mul]
   have aE:(x:Int)*(y:Int)=((x*y:Nat):Int):=(Int.natCast_mul x y).symm
   rw [ab,QY _ b7,tH,aE,← Int.natCast_add z (x*y),bB (x*y) (by omega),bB (z+x*y) (by omega),bB (c+(z+x*y)) (by omega),bB x (by omega),bB y (by omega),← Int.natCast_add i d,bB (i+d) (by omega),bB (i+d+1) (by omega),dT (show (0:Int)≤(d:Int) by omega),dT (show (0:Int)≤((i+d+1:Nat):Int) by omega),dT (show ((i+d+1:Nat):Int) < (zs.length:Int) by omega),dT (show i+d+1 < zs.length by omega),dT (show (0:Int)≤(i:Int) by omega),dT (show (i:Int) < (s.size:Int) by omega),dT (show (d:Int) < (t.size:Int) by omega),aJ (show -9223372036854775808≤(d:Int) - 1∧(d:Int) - 1≤9223372036854775807 by omega)] at J
   rw [show ((d+1:Nat):Int) - 1=(d:Int) by omega,J]
   unfold iW iy
   rw [List.length_set]
   rfl
  ·intro k b3
   rw [bx k b3,List.getElem?_set_ne (by omega)]
  ·have U:=Pp z ((c+(z+x*y)) % 256) ct (Nat.mod_lt _ (by decide)) zs (i+d+1) (i+1) (by omega) c0
   have b5:=qa t d (by omega)
   rw [M] at b5
   have b6:vB (t.data.toList.take (d+1))=vB (t.data.toList.take d)*256+y:=by omega
   have b4:256 ^ (s.size+t.size - (i+d+1))=256*256 ^ (s.size+t.size - (i+(d+1)+1)):=by
    rw [show s.size+t.size - (i+d+1)=(s.size+t.size - (i+(d+1)+1))+1 by omega,Nat.pow_succ,Nat.mul_comm]
   rw [b1,b4,b6]
   rw [G,show s.size+t.size - (i+d+1) - 1=s.size+t.size - (i+(d+1)+1) by omega] at U
   exact aaV U rfl
def uV (s t:ByteArray) (zs:List Int) (i c j:Int):Prop:=s.size≤8796093022208∧t.size≤8796093022208∧(∃ k:Nat,i=(k:Int)∧k < s.size)∧zs.length=s.size+t.size∧jO zs∧c=0∧j=(t.size:Int) - 1
def yE (s t:ByteArray) (zs:List Int) (i c j:Int) (r:List Int×Int×Int):Prop:=r.1.length=s.size+t.size∧jO r.1∧(∀ k:Nat,k≤i.toNat→r.1[k]? =zs[k]?)∧
 ∃ c2:Nat,r.2.1=(c2:Int)∧c2 < 256∧vY (r.1.drop (i.toNat+1))+c2*256 ^ (s.size+t.size - (i.toNat+1))=vY (zs.drop (i.toNat+1))+(aT s i.toNat).toNat*vS t*256 ^ (s.size+t.size - (i.toNat+t.size+1))
theorem YC (s t:ByteArray) (zs:List Int) (i c j:Int) (h:uV s t zs i c j):∃ r:List Int×Int×Int,aA Tryz.prog (lb 132 gi) (iW s t zs i c j) (iy s t zs i c j) (.exit 2) (iW s t r.1 i r.2.1 r.2.2) (iy s t r.1 i r.2.1 r.2.2)∧yE s t zs i c j r:=by
 obtain ⟨J,M, ⟨k,rfl,O⟩,U,Z,rfl,rfl⟩:=h
 have hb:=lj s k
 obtain ⟨x,G⟩:∃ x:Nat,aT s k=x:= ⟨(aT s k).toNat,by omega⟩
 obtain ⟨r,k1,ab,aE,a1,c2,a6,a7,I⟩:=aaU s t J M k O x (by omega) G t.size 0 zs (Nat.le_refl _) U Z (by omega)
 have e:t.data.toList.take t.size=t.data.toList:=List.take_of_length_le (by rw [Array.length_toList];exact Nat.le_refl _)
 rw [e,Nat.zero_mul,Nat.add_zero] at I
 unfold yE
 rw [Int.toNat_natCast,G,Int.toNat_natCast]
 exact ⟨r,k1,ab,aE,a1,c2,a6,a7,I⟩
def Gj (J:ByteArray→ByteArray→List Int→Int→Int→Int→Bool) (G:ByteArray→ByteArray→List Int→Int→Int→Int→List Int×Int×Int) (T:List AV) (H:Hp):Option (Bool×Ex×List AV×Hp):=
 match al T 0,al T 1,al T 5,al T 6,al T 7,al T 8,H with
 | .val (.string s), .val (.string t), .sl false 3 0 0 I, .val (.int .i64 i), .val (.int .i64 c), .val (.int .i64 j), [.row (.ints .i64 zs) 3 .live]=>bif T.length==87 then some (decide (I=zs.length)&&J s t zs i c j, .exit 2,iW s t ((G s t zs i c j).1) i ((G s t zs i c j).2.1) ((G s t zs i c j).2.2),iy s t ((G s t zs i c j).1) i ((G s t zs i c j).2.1) ((G s t zs i c j).2.2)) else none
 | _,_,_,_,_,_,_=>none
abbrev AT:Type:=ByteArray→ByteArray→List Int→Int→Int→Int→Bool
abbrev Az:Type:=ByteArray→ByteArray→List Int→Int→Int→Int→List Int×Int×Int
def IC (G:AT) (I:Az) (L:aD):aD:=bu 0 132 gi [0,1,5,6,7,8] (Gj G I) L
def jV (s t:ByteArray) (zs:List Int) (i c j:Int):List Int×Int×Int:=Classical.epsilon fun ρ=>aA Tryz.prog (lb 132 gi) (iW s t zs i c j) (iy s t zs i c j) (.exit 2) (iW s t (ρ.1) i (ρ.2.1) (ρ.2.2)) (iy s t (ρ.1) i (ρ.2.1) (ρ.2.2))∧yE s t zs i c j ρ
theorem MN (s t:ByteArray) (zs:List Int) (i c j:Int) (h:uV s t zs i c j):aA Tryz.prog (lb 132 gi) (iW s t zs i c j) (iy s t zs i c j) (.exit 2) (iW s t ((jV s t zs i c j).1) i ((jV s t zs i c j).2.1) ((jV s t zs i c j).2.2)) (iy s t ((jV s t zs i c j).1) i ((jV s t zs i c j).2.1) ((jV s t zs i c j).2.2))∧yE s t zs i c j (jV s t zs i c j):=Classical.epsilon_spec (YC s t zs i c j h)
def tf (s t:ByteArray) (zs:List Int) (i c j:Int):Bool:= @decide (uV s t zs i c j) (Classical.propDecidable _)
theorem Ur (s t:ByteArray) (zs:List Int) (i c j:Int) (h:uV s t zs i c j):tf s t zs i c j=true:= @decide_eq_true _ (Classical.propDecidable _) h
theorem adC (T:List AV) (H:Hp) (e:Ex) (J:List AV) (I:Hp) (h:Gj tf jV T H=some (true,e,J,I)):V.Ends Tryz.prog false 0 0 (.loop (lb 132 gi)) T H e J I:=by
 unfold Gj at h
 split at h
 ·rename_i s t b0 i c j zs U Z ab aE a1 a6
  rw [Bool.cond_eq_ite] at h
  split at h
  ·rename_i M
   rw [beq_iff_eq] at M
   simp only [Option.some.injEq,Prod.mk.injEq,Bool.and_eq_true,decide_eq_true_eq] at h
   obtain ⟨⟨k1,bx⟩,rfl,rfl,rfl⟩:=h
   have bD:= @of_decide_eq_true _ (Classical.propDecidable _) bx
   refine Ends.pre (MN s t zs i c j bD).1.ends (fun α B w D b1 a7=>bw M (fun p O y G=> ?_) a7)
   simp only [List.mem_cons,List.not_mem_nil,or_false] at O
   rcases O with rfl | rfl | rfl | rfl | rfl | rfl
   ·rw [U] at G;exact G
   ·rw [Z] at G;exact G
   ·rw [ab] at G;rw [← k1];exact G
   ·rw [aE] at G;exact G
   ·rw [a1] at G;exact G
   ·rw [a6] at G;exact G
  ·cases h
 ·cases h
theorem Qy {L:aD} (h:aC Tryz.prog L):aC Tryz.prog (IC tf jV L):=h.bC RM adC
def G9 (G:AT) (I:Az):Env:= ⟨aM,az,IC G I aq⟩
abbrev gj:List Bool:= [false,true,false,true,true]
def iX (s t:ByteArray) (zs:List Int) (i:Int):List AV:=ao 87 [(0, .val (.string s)),(1, .val (.string t)),(5, .sl false 3 0 0 zs.length),(6, .val (.int .i64 i))]
def iz (s t:ByteArray) (zs:List Int) (i:Int):Hp:= [.row (.ints .i64 zs) 3 .live]
theorem RN:aI Tryz.prog 132 gj=some (.loop (lb 132 gj)):=by kernel_rfl
theorem Ty:aI Tryz.prog 132 (false :: gj)=some (lb 132 gj):=by kernel_rfl
theorem Nz (I:AT) (J:Az) (s t:ByteArray) (zs:List Int) (i:Int):letI G:=(J s t zs i (0:Int) ((↑t.size:Int) - 1));
  (aP Tryz.prog (G9 I J) 132 [0,1,5,6] (lb 132 gj) (false :: gj) (iX s t zs i) (iz s t zs i)=(bif decide (0≤i) then (bif ah IntKind.i64 ((↑t.size:Int) - 1) then (bif decide (zs.length=zs.length)&&I s t zs i (0:Int) ((↑t.size:Int) - 1) then (bif decide (0≤i)&&decide (i < (↑G.fst.length:Int)) then (bif decide (0+i.toNat*1 < G.fst.length) then (bif ah IntKind.i64 (G.fst.getD (0+i.toNat*1) 0+G.snd.fst) then (bif decide (0≤i)&&decide (i < (↑G.fst.length:Int)) then (bif decide (0+i.toNat*1 < G.fst.length) then (bif ah IntKind.i64 (i - 1) then some (.normal,ao 87 [(0,(.val (.string s))),(1,(.val (.string t))),(5,(.sl false 3 0 0 (G.fst.length))),(6,(.val (.int .i64 (i - 1))))], [(.row (.ints .i64 (G.fst.set (0+i.toNat*1) (G.fst.getD (0+i.toNat*1) 0+G.snd.fst))) 3 .live)]) else none) else none) else none) else none) else none) else none) else none) else none) else some ((.exit 0),ao 87 [(0,(.val (.string s))),(1,(.val (.string t))),(5,(.sl false 3 0 0 zs.length)),(6,(.val (.int .i64 i)))], [(.row (.ints .i64 zs) 3 .live)]))):=by kernel_rfl
theorem Ow {s t:ByteArray} {zs:List Int} {i:Int} {e:Ex} {T:List AV} {H:Hp} (h:aP Tryz.prog (G9 tf jV) 132 [0,1,5,6] (lb 132 gj) (false :: gj) (iX s t zs i) (iz s t zs i)=some (e,T,H)):V.Ends Tryz.prog false 0 0 (lb 132 gj) (iX s t zs i) (iz s t zs i) e T H:=
 bK (aK _) (Qy aC.none).ok mixed Ty h
theorem aaX {V A G X P x T c Q:Nat} (I:G+c*Q=A+x*T*P):G+c*Q+X*T*(256*P)=A+(X*256+x)*T*P:=by
 have e:(X*256+x)*T*P=X*T*(256*P)+x*T*P:=by grind
 omega
theorem aaW (s t:ByteArray) (b3:s.size≤8796093022208) (b6:t.size≤8796093022208) (d:Nat):∀ zs:List Int,d≤s.size→zs.length=s.size+t.size→jO zs→(∀ k:Nat,k < d→zs[k]? =some 0)→
  ∃ r:List Int×Int,aA Tryz.prog (lb 132 gj) (iX s t zs ((d:Int) - 1)) (iz s t zs ((d:Int) - 1)) (.exit 0) (iX s t r.1 r.2) (iz s t r.1 r.2)∧r.1.length=s.size+t.size∧jO r.1∧vY r.1=vY (zs.drop d)+vB (s.data.toList.take d)*vS t*256 ^ (s.size - d):=by
 induction d with
 | zero=>
  intro zs bD J M I
  refine ⟨(zs,((0:Nat):Int) - 1), .last (Ow ?_) (by intro h;cases h),J,M, ?_⟩
  ·rw [Nz,dF (show ¬ (0:Int)≤((0:Nat):Int) - 1 by decide)];rfl
  ·rw [List.take_zero]
   show _=_+0*_*_
   rw [Nat.zero_mul,Nat.zero_mul];rfl
 | succ d ct=>
  intro zs bD J M I
  have aE:uV s t zs (d:Int) 0 ((t.size:Int) - 1):= ⟨b3,b6, ⟨d,rfl,by omega⟩,J,M,rfl,rfl⟩
  obtain ⟨_,p1,p2,p3,c2,p4,p5,G⟩:=MN _ _ _ _ _ _ aE
  have U:=Nz tf jV s t zs (d:Int)
  rw [Ur _ _ _ _ _ _ aE] at U
  generalize jV s t zs (d:Int) 0 ((t.size:Int) - 1)=q at*
  obtain ⟨q1,q2⟩:=q
  rw [Int.toNat_natCast] at p3 G
  have Z:q1[d]? =some ((0:Nat):Int):=by rw [p3 d (Nat.le_refl _),I d (by omega)];rfl
  have ch:q1.getD d 0=0:=by rw [List.getD_eq_getElem?_getD,Z];rfl
  have p1:q1.length=s.size+t.size:=p1
  obtain ⟨r,a1,a6,a7,bx⟩:=ct (q1.set d (c2:Int)) (by omega) (by rw [List.length_set];exact p1) (LZ p2 _ _ p5) (fun k c0=>by
   rw [List.getElem?_set_ne (by omega),p3 k (by omega),I k (by omega)])
  refine ⟨r, .more (Ow ?_) a1,a6,a7, ?_⟩
  ·have p4:q2.1=(c2:Int):=p4
   rw [p4,Int.toNat_natCast,Nat.zero_add,Nat.mul_one,ch,Int.zero_add,dT (show (0:Int)≤(d:Int) by omega),aJ (show -9223372036854775808≤(t.size:Int) - 1∧(t.size:Int) - 1≤9223372036854775807 by omega),dT (show zs.length=zs.length from rfl),dT (show (d:Int) < (q1.length:Int) by omega),dT (show d < q1.length by omega),bB c2 (by omega),aJ (show -9223372036854775808≤(d:Int) - 1∧(d:Int) - 1≤9223372036854775807 by omega)] at U
   rw [show ((d+1:Nat):Int) - 1=(d:Int) by omega,U]
   unfold iX iz
   rw [List.length_set]
   rfl
  ·have O:=Pp 0 c2 (by omega) p5 q1 d d (Nat.le_refl _) Z
   rw [Nat.zero_mul,Nat.add_zero] at O
   have ab:d < q1.length:=by omega
   have b1:q1[d]=0:=by
    have:=List.getElem?_eq_getElem ab
    rw [Z] at this
    exact (Option.some.inj this).symm
   have b0:vY (q1.drop d)=vY (q1.drop (d+1)):=by
    rw [List.drop_eq_getElem_cons ab,sh,b1]
    show 0*_+_=_
    rw [Nat.zero_mul,Nat.zero_add]
   rw [b0,p1] at O
   have hb:=lj s d
   obtain ⟨x,b7⟩:∃ x:Nat,aT s d=x:= ⟨(aT s d).toNat,by omega⟩
   have b4:=qa s d (by omega)
   rw [b7] at b4 G
   have b5:vB (s.data.toList.take (d+1))=vB (s.data.toList.take d)*256+x:=by omega
   have b2:256 ^ (s.size - d)=256*256 ^ (s.size - (d+1)):=by
    rw [show s.size - d=(s.size - (d+1))+1 by omega,Nat.pow_succ,Nat.mul_comm]
   rw [Int.toNat_natCast,show s.size+t.size - (d+t.size+1)=s.size - (d+1) by omega] at G
   rw [bx,O,b2,b5,show s.size+t.size - d - 1=s.size+t.size - (d+1) by omega]
   exact aaX (V:=0) G
def uW (s t:ByteArray) (zs:List Int) (i:Int):Prop:=s.size≤8796093022208∧t.size≤8796093022208∧zs=List.replicate (s.size+t.size) 0∧i=(s.size:Int) - 1
def DI (s t:ByteArray) (zs:List Int) (i:Int) (r:List Int×Int):Prop:=r.1.length=s.size+t.size∧jO r.1∧vY r.1=vS s*vS t
theorem YD (s t:ByteArray) (zs:List Int) (i:Int) (h:uW s t zs i):∃ r:List Int×Int,aA Tryz.prog (lb 132 gj) (iX s t zs i) (iz s t zs i) (.exit 0) (iX s t r.1 r.2) (iz s t r.1 r.2)∧DI s t zs i r:=by
 obtain ⟨I,J,rfl,rfl⟩:=h
 obtain ⟨r,k1,U,Z,G⟩:=aaW s t I J s.size (List.replicate (s.size+t.size) 0) (Nat.le_refl _) (by rw [List.length_replicate]) (fun z M=>by rw [(List.mem_replicate.1 M).2];omega) (fun k ab=>by rw [List.getElem?_replicate,if_pos (by omega)])
 refine ⟨r,k1,U,Z, ?_⟩
 have e:s.data.toList.take s.size=s.data.toList:=List.take_of_length_le (by rw [Array.length_toList];exact Nat.le_refl _)
 have e0:∀ n:Nat,vY (List.replicate n (0:Int))=0:=by
  intro n
  induction n with
  | zero=>rfl
  | succ n O=>rw [List.replicate_succ,sh,O];show 0*_+0=0;omega
 rw [e,List.drop_replicate,e0,Nat.sub_self,Nat.pow_zero,Nat.mul_one,Nat.zero_add] at G
 exact G
def Gk (J:ByteArray→ByteArray→List Int→Int→Bool) (G:ByteArray→ByteArray→List Int→Int→List Int×Int) (T:List AV) (H:Hp):Option (Bool×Ex×List AV×Hp):=
 match al T 0,al T 1,al T 5,al T 6,H with
 | .val (.string s), .val (.string t), .sl false 3 0 0 I, .val (.int .i64 i), [.row (.ints .i64 zs) 3 .live]=>bif T.length==87 then some (decide (I=zs.length)&&J s t zs i, .exit 0,iX s t ((G s t zs i).1) ((G s t zs i).2),iz s t ((G s t zs i).1) ((G s t zs i).2)) else none
 | _,_,_,_,_=>none
abbrev AU:Type:=ByteArray→ByteArray→List Int→Int→Bool
abbrev AA:Type:=ByteArray→ByteArray→List Int→Int→List Int×Int
def ID (G:AU) (I:AA) (L:aD):aD:=bu 0 132 gj [0,1,5,6] (Gk G I) L
def dm (s t:ByteArray) (zs:List Int) (i:Int):List Int×Int:=Classical.epsilon fun ρ=>aA Tryz.prog (lb 132 gj) (iX s t zs i) (iz s t zs i) (.exit 0) (iX s t (ρ.1) (ρ.2)) (iz s t (ρ.1) (ρ.2))∧DI s t zs i ρ
theorem MO (s t:ByteArray) (zs:List Int) (i:Int) (h:uW s t zs i):aA Tryz.prog (lb 132 gj) (iX s t zs i) (iz s t zs i) (.exit 0) (iX s t ((dm s t zs i).1) ((dm s t zs i).2)) (iz s t ((dm s t zs i).1) ((dm s t zs i).2))∧DI s t zs i (dm s t zs i):=Classical.epsilon_spec (YD s t zs i h)
def tg (s t:ByteArray) (zs:List Int) (i:Int):Bool:= @decide (uW s t zs i) (Classical.propDecidable _)
theorem Us (s t:ByteArray) (zs:List Int) (i:Int) (h:uW s t zs i):tg s t zs i=true:= @decide_eq_true _ (Classical.propDecidable _) h
theorem adD (T:List AV) (H:Hp) (e:Ex) (J:List AV) (I:Hp) (h:Gk tg dm T H=some (true,e,J,I)):V.Ends Tryz.prog false 0 0 (.loop (lb 132 gj)) T H e J I:=by
 unfold Gk at h
 split at h
 ·rename_i s t bx i zs U Z ab aE
  rw [Bool.cond_eq_ite] at h
  split at h
  ·rename_i M
   rw [beq_iff_eq] at M
   simp only [Option.some.injEq,Prod.mk.injEq,Bool.and_eq_true,decide_eq_true_eq] at h
   obtain ⟨⟨k1,a6⟩,rfl,rfl,rfl⟩:=h
   have a7:= @of_decide_eq_true _ (Classical.propDecidable _) a6
   refine Ends.pre (MO s t zs i a7).1.ends (fun α B w D bD a1=>bw M (fun p O y G=> ?_) a1)
   simp only [List.mem_cons,List.not_mem_nil,or_false] at O
   rcases O with rfl | rfl | rfl | rfl
   ·rw [U] at G;exact G
   ·rw [Z] at G;exact G
   ·rw [ab] at G;rw [← k1];exact G
   ·rw [aE] at G;exact G
  ·cases h
 ·cases h
theorem Qz {L:aD} (h:aC Tryz.prog L):aC Tryz.prog (ID tg dm L):=h.bC RN adD
abbrev gh:List Bool:= [false,true,false,true,true,true,true]
def iV (zs G:List Int) (i:Int):List AV:=ao 87 [(5, .sl false 3 0 0 zs.length),(9, .sl false 5 1 0 G.length),(10, .val (.int .i64 i))]
def iw (zs G:List Int) (i:Int):Hp:= [.row (.ints .i64 zs) 3 .live, .row (.ints .u8 G) 5 .live]
theorem RL:aI Tryz.prog 132 gh=some (.loop (lb 132 gh)):=by kernel_rfl
theorem Tw:aI Tryz.prog 132 (false :: gh)=some (lb 132 gh):=by kernel_rfl
theorem Nx (zs G:List Int) (i:Int):aP Tryz.prog bg 132 [5,9,10] (lb 132 gh) (false :: gh) (iV zs G i) (iw zs G i)=
  (bif decide (i < (↑zs.length:Int)) then (bif decide (0≤i)&&decide (i < (↑zs.length:Int)) then (bif decide (0+i.toNat*1 < zs.length) then (bif decide (0≤i)&&decide (i < (↑G.length:Int)) then (bif decide (0+i.toNat*1 < G.length) then (bif ah IntKind.i64 (i+1) then some (.normal,ao 87 [(5,(.sl false 3 0 0 zs.length)),(9,(.sl false 5 1 0 G.length)),(10,(.val (.int .i64 (i+1))))], [(.row (.ints .i64 zs) 3 .live),(.row (.ints .u8 (G.set (0+i.toNat*1) (IntKind.u8.wrap (zs.getD (0+i.toNat*1) (0:Int))))) 5 .live)]) else none) else none) else none) else none) else none) else some ((.exit 4),ao 87 [(5,(.sl false 3 0 0 zs.length)),(9,(.sl false 5 1 0 G.length)),(10,(.val (.int .i64 i)))], [(.row (.ints .i64 zs) 3 .live),(.row (.ints .u8 G) 5 .live)])):=by kernel_rfl
theorem Ou {zs G:List Int} {i:Int} {e:Ex} {T:List AV} {H:Hp} (h:aP Tryz.prog bg 132 [5,9,10] (lb 132 gh) (false :: gh) (iV zs G i) (iw zs G i)=some (e,T,H)):V.Ends Tryz.prog false 0 0 (lb 132 gh) (iV zs G i) (iw zs G i) e T H:=
 bK (aK _) aO mixed Tw h
def uU (zs G:List Int) (i:Int):Prop:=jO zs∧G.length=zs.length∧zs.length≤17592186044416∧i=0
def DH (zs G:List Int) (i:Int) (r:List Int×Int):Prop:=r.1=zs
theorem aaT (zs:List Int) (U:jO zs) (a7:zs.length≤17592186044416) (d:Nat):∀ (i:Nat) (G:List Int),i+d=zs.length→G.length=zs.length→(∀ k:Nat,k < i→G[k]? =zs[k]?)→
  ∃ r:List Int×Int,aA Tryz.prog (lb 132 gh) (iV zs G i) (iw zs G i) (.exit 4) (iV zs r.1 r.2) (iw zs r.1 r.2)∧r.1=zs:=by
 induction d with
 | zero=>
  intro i G hi J I
  refine ⟨(G,(i:Int)), .last (Ou ?_) (by intro h;cases h), ?_⟩
  ·rw [Nx,dF (show ¬ (i:Int) < (zs.length:Int) by omega)];rfl
  ·apply List.ext_getElem?
   intro k
   by_cases h:k < i
   ·exact I k h
   ·show G[k]? =zs[k]?
    rw [List.getElem?_eq_none (by omega),List.getElem?_eq_none (by omega)]
 | succ d a1=>
  intro i G hi J I
  obtain ⟨z,Z,ab,aE⟩:=KF U i (by omega)
  obtain ⟨r,M,O⟩:=a1 (i+1) (G.set i (z:Int)) (by omega) (by rw [List.length_set];exact J) (fun k a6=>by
   by_cases h:k=i
   ·subst h;rw [List.getElem?_set_self (by omega),ab]
   ·rw [List.getElem?_set_ne (by omega)];exact I k (by omega))
  refine ⟨r, .more (Ou ?_) M,O⟩
  rw [Nx,Int.toNat_natCast,Nat.zero_add,Nat.mul_one,aE,kD,Nat.mod_eq_of_lt Z,dT (show (0:Int)≤(i:Int) by omega),dT (show (i:Int) < (zs.length:Int) by omega),dT (show (i:Int) < (G.length:Int) by omega),dT (show i < zs.length by omega),dT (show i < G.length by omega),aJ (show -9223372036854775808≤(i:Int)+1∧(i:Int)+1≤9223372036854775807 by omega)]
  unfold iV iw
  rw [List.length_set]
  rfl
theorem YB (zs G:List Int) (i:Int) (h:uU zs G i):∃ r:List Int×Int,aA Tryz.prog (lb 132 gh) (iV zs G i) (iw zs G i) (.exit 4) (iV zs r.1 r.2) (iw zs r.1 r.2)∧DH zs G i r:=by
 obtain ⟨I,J,M,rfl⟩:=h
 exact aaT zs I M zs.length 0 G (by omega) J (fun k O=>absurd O (by omega))
def Gi (O:List Int→List Int→Int→Bool) (I:List Int→List Int→Int→List Int×Int) (T:List AV) (H:Hp):Option (Bool×Ex×List AV×Hp):=
 match al T 5,al T 9,al T 10,H with
 | .sl false 3 0 0 M, .sl false 5 1 0 J, .val (.int .i64 i), [.row (.ints .i64 zs) 3 .live, .row (.ints .u8 G) 5 .live]=>bif T.length==87 then some (decide (M=zs.length)&&decide (J=G.length)&&O zs G i, .exit 4,iV zs ((I zs G i).1) ((I zs G i).2),iw zs ((I zs G i).1) ((I zs G i).2)) else none
 | _,_,_,_=>none
abbrev AS:Type:=List Int→List Int→Int→Bool
abbrev Ay:Type:=List Int→List Int→Int→List Int×Int
def IB (G:AS) (I:Ay) (L:aD):aD:=bu 0 132 gh [5,9,10] (Gi G I) L
def lI (zs G:List Int) (i:Int):List Int×Int:=Classical.epsilon fun ρ=>aA Tryz.prog (lb 132 gh) (iV zs G i) (iw zs G i) (.exit 4) (iV zs (ρ.1) (ρ.2)) (iw zs (ρ.1) (ρ.2))∧DH zs G i ρ
theorem MM (zs G:List Int) (i:Int) (h:uU zs G i):aA Tryz.prog (lb 132 gh) (iV zs G i) (iw zs G i) (.exit 4) (iV zs ((lI zs G i).1) ((lI zs G i).2)) (iw zs ((lI zs G i).1) ((lI zs G i).2))∧DH zs G i (lI zs G i):=Classical.epsilon_spec (YB zs G i h)
def td (zs G:List Int) (i:Int):Bool:= @decide (uU zs G i) (Classical.propDecidable _)
theorem Uq (zs G:List Int) (i:Int) (h:uU zs G i):td zs G i=true:= @decide_eq_true _ (Classical.propDecidable _) h
theorem adB (T:List AV) (H:Hp) (e:Ex) (J:List AV) (I:Hp) (h:Gi td lI T H=some (true,e,J,I)):V.Ends Tryz.prog false 0 0 (.loop (lb 132 gh)) T H e J I:=by
 unfold Gi at h
 split at h
 ·rename_i b0 bD i zs U ab aE Z
  rw [Bool.cond_eq_ite] at h
  split at h
  ·rename_i M
   rw [beq_iff_eq] at M
   simp only [Option.some.injEq,Prod.mk.injEq,Bool.and_eq_true,decide_eq_true_eq] at h
   obtain ⟨⟨⟨k1,a6⟩,a7⟩,rfl,rfl,rfl⟩:=h
   have bx:= @of_decide_eq_true _ (Classical.propDecidable _) a7
   refine Ends.pre (MM zs U i bx).1.ends (fun α B w D U a1=>bw M (fun p O y G=> ?_) a1)
   simp only [List.mem_cons,List.not_mem_nil,or_false] at O
   rcases O with rfl | rfl | rfl
   ·rw [ab] at G;rw [← k1];exact G
   ·rw [aE] at G;rw [← a6];exact G
   ·rw [Z] at G;exact G
  ·cases h
 ·cases h
theorem Qx {L:aD} (h:aC Tryz.prog L):aC Tryz.prog (IB td lI L):=h.bC RL adB
def Hc (S:Sg) (G:AU) (J:AA) (I:AS) (M:Ay):Env:= ⟨au 160 (og S) aM,az,ID G J (IB I M aq)⟩
theorem aaZ (S:Sg) (O:AU) (Z:AA) (U:AS) (M:Ay) (s t:ByteArray):letI J:=((↑s.size:Int)+(↑t.size:Int));letI G:=(Z s t (List.replicate J.toNat (0:Int)) ((↑s.size:Int) - 1));letI I:=(List.replicate (↑G.fst.length:Int).toNat (0:Int));
  (aG Tryz.prog (Hc S O Z U M) 10 10 132 [.val (.string s), .val (.string t)]=(bif ah IntKind.i64 J then (bif decide ((↑s.size:Int)+(↑t.size:Int)≤(↑s.size:Int)+(↑t.size:Int))&&decide (8*J≤281474976710656)&&decide ((↑s.size:Int)+(↑t.size:Int)≤9223372036854775807) then (bif ah IntKind.i64 ((↑s.size:Int) - 1) then (bif decide (J.toNat=(List.replicate J.toNat (0:Int)).length)&&O s t (List.replicate J.toNat (0:Int)) ((↑s.size:Int) - 1) then (bif decide ((↑G.fst.length:Int)≤(↑G.fst.length:Int))&&decide (1*(↑G.fst.length:Int)≤281474976710656)&&decide ((↑G.fst.length:Int)≤9223372036854775807) then (bif decide (G.fst.length=G.fst.length)&&decide ((↑G.fst.length:Int).toNat=I.length)&&U G.fst I (0:Int) then (bif decide (0+(M G.fst I (0:Int)).fst.length*1≤(M G.fst I (0:Int)).fst.length) then some (.val (.string (S.mg (S.vs (ofBytes (List.take ((M G.fst I (0:Int)).fst.length*1) (List.drop 0 (M G.fst I (0:Int)).fst))))))) else none) else none) else none) else none) else none) else none) else none)):=by kernel_rfl
end
end Go.Proofs.YtamcpiicmfielaaGreat.L
namespace Go.Proofs.YtamcpiicmfielaaGreat.L
open Go Go.V Go.RowKit Go.Proofs.YtamcpiicmfielaaGreat.Sp Go.Proofs.YtamcpiicmfielaaGreat.F Go.Proofs.YtamcpiicmfielaaGreatW.PrintWords
open Go.Proofs (Tryz.prog)
noncomputable section
def FC (S:Sg) (args:List AV):Option (Bool×AV):=match args with | [.val (.string s), .val (.string t)]=>some (S.ok s&&S.ok t, .val (.string (S.mg (S.vs s*S.vs t)))) | _=>none
theorem toNatN (n:Nat):(n:Int).toNat=n:=of_eq_true (eq_true rfl)
theorem VW:Entry Tryz.prog 132 (FC aa):=by
 refine aZ (E:=Hc aa tg dm td lI) (u:=10) (d:=10) ((aK _).add qJ) (Qz (Qx aC.none)).ok mixed (by kernel_rfl) (fun args r h=> ?_)
 unfold FC at h
 split at h
 ·rename_i s t
  simp only [Option.some.injEq,Prod.mk.injEq,Bool.and_eq_true] at h
  obtain ⟨⟨Z,ab⟩,rfl⟩:=h
  have z1:=kP Z
  have z2:=kP ab
  have I:uW s t (List.replicate (s.size+t.size) 0) ((s.size:Int) - 1):= ⟨z1,z2,rfl,rfl⟩
  obtain ⟨_,c1,c2,M⟩:=MO _ _ _ _ I
  have G:=aaZ aa tg dm td lI s t
  have U:((s.size:Int)+(t.size:Int))=((s.size+t.size:Nat):Int):=(Int.natCast_add _ _).symm
  rw [U] at G
  simp only [toNatN,List.length_replicate,eq_self,decide_true] at G
  rw [Us _ _ _ _ I] at G
  have J:uU (dm s t (List.replicate (s.size+t.size) 0) ((s.size:Int) - 1)).1 (List.replicate (dm s t (List.replicate (s.size+t.size) 0) ((s.size:Int) - 1)).1.length 0) 0:= ⟨c2,by rw [List.length_replicate],by omega,rfl⟩
  obtain ⟨_,d1⟩:=MM _ _ _ J
  rw [Uq _ _ _ J] at G
  have d1:(lI (dm s t (List.replicate (s.size+t.size) 0) ((s.size:Int) - 1)).1 (List.replicate (dm s t (List.replicate (s.size+t.size) 0) ((s.size:Int) - 1)).1.length 0) 0).1=(dm s t (List.replicate (s.size+t.size) 0) ((s.size:Int) - 1)).1:=d1
  rw [d1,bB _ (by omega),dT (show ((s.size+t.size:Nat):Int)≤((s.size+t.size:Nat):Int) by omega),dT (show (8:Int)*((s.size+t.size:Nat):Int)≤281474976710656 by omega),dT (show ((s.size+t.size:Nat):Int)≤9223372036854775807 by omega),aJ (show -9223372036854775808≤(s.size:Int) - 1∧(s.size:Int) - 1≤9223372036854775807 by omega),dT (show (((dm s t (List.replicate (s.size+t.size) 0) ((s.size:Int) - 1)).1.length:Nat):Int)≤(((dm s t (List.replicate (s.size+t.size) 0) ((s.size:Int) - 1)).1.length:Nat):Int) by omega),dT (show (1:Int)*(((dm s t (List.replicate (s.size+t.size) 0) ((s.size:Int) - 1)).1.length:Nat):Int)≤281474976710656 by omega),dT (show (((dm s t (List.replicate (s.size+t.size) 0) ((s.size:Int) - 1)).1.length:Nat):Int)≤9223372036854775807 by omega),dT (show 0+(dm s t (List.replicate (s.size+t.size) 0) ((s.size:Int) - 1)).1.length*1≤(dm s t (List.replicate (s.size+t.size) 0) ((s.size:Int) - 1)).1.length by omega),Nat.mul_one,List.drop_zero,List.take_length] at G
  have O:aa.vs (ofBytes (dm s t (List.replicate (s.size+t.size) 0) ((s.size:Int) - 1)).1)=aa.vs s*aa.vs t:=M
  rw [← O]
  exact G
 ·cases h
def Ac (S:Sg):FuncId→List AV→Option (Bool×AV):=au 130 (oa S) (au 132 (FC S) (au 131 (zJ S) (au 124 (kC S) aM)))
theorem PN:bf Tryz.prog (Ac aa):=((((aK _).add tA).add Ka).add VW).add tw
theorem aaY (S:Sg) (b c:Bool) (s t:ByteArray):letI G:=(S.val (S.ng (S.val b s)) (S.ms (S.val b s))*S.val (S.ng (S.val c t)) (S.ms (S.val c t)));
  (aG Tryz.prog ⟨Ac S,az,aq⟩ 10 10 96 [.agg [.val (.bool b), .val (.string s)], .agg [.val (.bool c), .val (.string t)]]=(bif aF (S.ms (S.val b s)) (ByteArray.mk #[]) then some (.agg [(.val (.bool false)),(.val (.string (ByteArray.mk #[])))]) else (bif aF (S.ms (S.val c t)) (ByteArray.mk #[]) then some (.agg [(.val (.bool false)),(.val (.string (ByteArray.mk #[])))]) else (bif ah IntKind.i64 ((↑(S.ms (S.val b s)).size:Int)+(↑(S.ms (S.val c t)).size:Int)) then (bif decide ((↑(S.ms (S.val b s)).size:Int)+(↑(S.ms (S.val c t)).size:Int) < 8) then (bif decide ((S.ms (S.val b s)).size≤8)&&decide (S.vs (S.ms (S.val b s)) < 9223372036854775808) then (bif decide ((S.ms (S.val c t)).size≤8)&&decide (S.vs (S.ms (S.val c t)) < 9223372036854775808) then (bif ah IntKind.i64 G then (bif cW G then some (.agg [(.val (.bool (S.ng G))),(.val (.string (S.ms G)))]) else none) else none) else none) else none) else (bif S.ok (S.ms (S.val b s))&&S.ok (S.ms (S.val c t)) then some (.agg [(.val (.bool (bif true then !S.ng (S.val b s)==S.ng (S.val c t) else S.ng (S.val b s)==S.ng (S.val c t)))),(.val (.string (S.mg (S.vs (S.ms (S.val b s))*S.vs (S.ms (S.val c t))))))]) else none)) else none)))):=by kernel_rfl
theorem Sc {a b:Nat} (h:bs a+bs b < 8):a*b < 72057594037927936:=by
 have G:=wS a b
 exact vF (by omega)
theorem VU:Entry Tryz.prog 96 (r7 aa):=by
 refine aZ (E:= ⟨Ac aa,az,aq⟩) (u:=10) (d:=10) PN aO mixed (by kernel_rfl) (fun args r h=> ?_)
 unfold r7 at h
 split at h
 ·rename_i b s c t
  simp only [Option.some.injEq,Prod.mk.injEq,Bool.and_eq_true] at h
  obtain ⟨⟨aE,a1⟩,rfl⟩:=h
  have M:=aaY aa b c s t
  have Z:=Nat.le_trans (dI b s) (kP aE)
  have ab:=Nat.le_trans (dI c t) (kP a1)
  generalize aa.val b s=x at*
  generalize aa.val c t=y at*
  simp only [v7,vD,eW,tZ] at M
  rw [bS Z,bS ab] at M
  rw [M]
  clear M
  by_cases J:x=0
  ·rw [dT J,J,Int.zero_mul]
   unfold Sg.int
   rw [lA]
   rfl
  by_cases O:y=0
  ·rw [dF J,dT O,O,Int.mul_zero]
   unfold Sg.int
   rw [lA]
   rfl
  rw [dF J,dF O,aJ (show -9223372036854775808≤(bs x.natAbs:Int)+(bs y.natAbs:Int)∧(bs x.natAbs:Int)+(bs y.natAbs:Int)≤9223372036854775807 by omega)]
  by_cases U:(bs x.natAbs:Int)+(bs y.natAbs:Int) < 8
  ·have k:=Sc (show bs x.natAbs+bs y.natAbs < 8 by omega)
   have k1:=vF (show bs x.natAbs < 8 by omega)
   have a7:=vF (show bs y.natAbs < 8 by omega)
   have bx:(x*y).natAbs < 72057594037927936:=by rw [Int.natAbs_mul];exact k
   rw [dT U,dT (show bs x.natAbs≤8 by omega),dT (show bs y.natAbs≤8 by omega),dT (show x.natAbs < 9223372036854775808 by omega),dT (show y.natAbs < 9223372036854775808 by omega),aJ (show -9223372036854775808≤x*y∧x*y≤9223372036854775807 by omega)]
   unfold cW
   rw [dT (show -9223372036854775808≤x*y by omega),dT (show x*y≤9223372036854775807 by omega)]
   rfl
  ·rw [dF U]
   have a6:(!(aa.ng x==aa.ng y))=decide (x*y < 0):=by
    rcases Int.lt_or_gt_of_ne J with G | G <;> rcases Int.lt_or_gt_of_ne O with I | I
    ·have:=Int.mul_pos_of_neg_of_neg G I
     rw [ua (by omega),dF (show ¬ x*y < 0 by omega)];rfl
    ·have:=Int.mul_neg_of_neg_of_pos G I
     rw [uc (by omega),dT (show x*y < 0 by omega)];rfl
    ·have:=Int.mul_neg_of_pos_of_neg G I
     rw [uc (by omega),dT (show x*y < 0 by omega)];rfl
    ·have:=Int.mul_pos G I
     rw [ua (by omega),dF (show ¬ x*y < 0 by omega)];rfl
   exact congrArg some (int_eq (n:=x.natAbs*y.natAbs) a6 (Int.natAbs_mul x y).symm)
 ·cases h
end
end Go.Proofs.YtamcpiicmfielaaGreat.L
