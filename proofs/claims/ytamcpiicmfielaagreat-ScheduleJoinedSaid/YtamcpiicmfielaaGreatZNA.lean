import Derived.Test.YtamcpiicmfielaaGreatZQA
set_option linter.unusedVariables false
set_option linter.unusedSimpArgs false
namespace Go.Proofs.YtamcpiicmfielaaGreat.L
open Go Go.V Go.RowKit Go.Proofs.YtamcpiicmfielaaGreat.Sp Go.Proofs.YtamcpiicmfielaaGreat.F Go.Proofs.YtamcpiicmfielaaGreatW.PrintWords
open Go.Proofs (Tryz.prog)
noncomputable section
def vY (zs:List Int):Nat:=vB (zs.map fun z=>UInt8.ofNat z.toNat)
theorem vY_cons (x:Nat) (zs:List Int) (h:x < 256):vY ((x:Int) :: zs)=x*256 ^ zs.length+vY zs:=by
 unfold vY
 rw [List.map_cons,vB_cons,List.length_map,Int.toNat_natCast,UInt8.toNat_ofNat',Nat.mod_eq_of_lt h]
theorem vY_nil:vY []=0:=rfl
theorem vY_set (zs:List Int) (j x:Nat) (hj:j < zs.length) (hx:x < 256):vY ((zs.set j (x:Int)).drop j)=x*256 ^ (zs.length - j - 1)+vY (zs.drop (j+1)):=by
 rw [List.drop_eq_getElem_cons (by rw [List.length_set];exact hj),List.getElem_set_self,vY_cons _ _ hx,List.length_drop,List.length_set,List.drop_set_of_lt (by omega)]
 rw [show zs.length - (j+1)=zs.length - j - 1 by omega]
theorem digit_at (s:ByteArray) (i:Nat) (h1:i < s.size):byteAt s (s.size - (i+1))=((vS s / 256 ^ i % 256:Nat):Int):=by
 have hl:s.size - (i+1) < s.data.toList.length:=by rw [← size_list];omega
 unfold byteAt
 rw [List.getD_eq_getElem?_getD,List.getElem?_eq_getElem hl,Option.getD_some]
 have e:s.data.toList=s.data.toList.take (s.size - (i+1)) ++ (s.data.toList[s.size - (i+1)] :: s.data.toList.drop (s.size - (i+1)+1)):=by
  rw [← List.drop_eq_getElem_cons hl,List.take_append_drop]
 have hv:vS s=vB s.data.toList:=rfl
 have hd:(s.data.toList.drop (s.size - (i+1)+1)).length=i:=by rw [List.length_drop,← size_list];omega
 have hlt:=vB_lt (s.data.toList.drop (s.size - (i+1)+1))
 rw [hd] at hlt
 have hc:=(s.data.toList[s.size - (i+1)]).toNat_lt
 have hv2:vS s=(vB (s.data.toList.take (s.size - (i+1)))*256+(s.data.toList[s.size - (i+1)]).toNat)*256 ^ i+vB (s.data.toList.drop (s.size - (i+1)+1)):=by
  rw [hv]
  conv=>lhs;rw [e]
  rw [vB_append,List.length_cons,hd,vB_cons,hd,Nat.pow_succ,Nat.add_mul]
  have:∀ a:Nat,a*(256 ^ i*256)=a*256*256 ^ i:=fun a=>by rw [Nat.mul_assoc,Nat.mul_comm 256]
  rw [this]
  omega
 rw [hv2,Nat.mul_comm _ (256 ^ i),Nat.mul_add_div (Nat.pow_pos (by decide)),Nat.div_eq_of_lt hlt]
 omega
theorem no_digit (s:ByteArray) (i:Nat) (h:s.size≤i):vS s / 256 ^ i % 256=0:=by
 rw [Nat.div_eq_of_lt (Nat.lt_of_lt_of_le (vS_lt s) (Nat.pow_le_pow_right (by decide) h))]
theorem mod_succ (V i:Nat):V % 256 ^ (i+1)=V % 256 ^ i+256 ^ i*(V / 256 ^ i % 256):=by rw [Nat.pow_succ,Nat.mod_mul]
theorem byte_step {p n v c o:Nat} (h:v+p*c=o):n % 256*p+v+p*256*(n / 256)+p*c=o+p*n:=by
 have e:p*(n % 256)+p*256*(n / 256)=p*n:=by rw [Nat.mul_assoc,← Nat.mul_add,Nat.mod_add_div]
 rw [Nat.mul_comm (n % 256)]
 omega
theorem u8w (n:Nat):IntKind.u8.wrap (n:Int)=((n % 256:Nat):Int):=by rw [u8_wrap];rfl
theorem fdiv256 (a:Nat):(a:Int).fdiv (256:Int)=((a / 256:Nat):Int):=fdivN a 256
abbrev p_radd:List Bool:= [false,true,false,true,true,true,true]
def sh_radd (s:ByteArray) (t:ByteArray) (n:Int) (zs:List Int) (c:Int) (i:Int):List AV:=slots 60 [(0, .val (.string s)),(1, .val (.string t)),(5, .val (.int .i64 n)),(6, .sl false 5 0 0 zs.length),(7, .val (.int .i64 c)),(8, .val (.int .i64 i))]
def hp_radd (s:ByteArray) (t:ByteArray) (n:Int) (zs:List Int) (c:Int) (i:Int):Hp:= [.row (.ints .u8 zs) 5 .live]
theorem body_radd:subC Tryz.prog 136 p_radd=some (.loop (lb 136 p_radd)):=by kernel_rfl
theorem code_radd:subC Tryz.prog 136 (false :: p_radd)=some (lb 136 p_radd):=by kernel_rfl
theorem round_radd (s:ByteArray) (t:ByteArray) (n:Int) (zs:List Int) (c:Int) (i:Int):letI q_1:=(c+byteAt s ((↑s.size:Int) - i).toNat+byteAt t ((↑t.size:Int) - i).toNat);letI q_2:=((0:Nat)+(n - i).toNat*(1:Nat));
  (roundA Tryz.prog EL0 136 [0,1,5,6,7,8] (lb 136 p_radd) (false :: p_radd) (sh_radd s t n zs c i) (hp_radd s t n zs c i)=(bif decide (i≤n) then (bif decide (i≤(↑s.size:Int)) then (bif inR IntKind.i64 ((↑s.size:Int) - i) then (bif decide ((0:Int)≤(↑s.size:Int) - i)&&decide ((↑s.size:Int) - i < (↑s.size:Int)) then (bif inR IntKind.i64 (byteAt s ((↑s.size:Int) - i).toNat) then (bif inR IntKind.i64 (c+byteAt s ((↑s.size:Int) - i).toNat) then (bif decide (i≤(↑t.size:Int)) then (bif inR IntKind.i64 ((↑t.size:Int) - i) then (bif decide ((0:Int)≤(↑t.size:Int) - i)&&decide ((↑t.size:Int) - i < (↑t.size:Int)) then (bif inR IntKind.i64 (byteAt t ((↑t.size:Int) - i).toNat) then (bif inR IntKind.i64 q_1 then (bif inR IntKind.i64 (n - i) then (bif decide ((0:Int)≤n - i)&&decide (n - i < (↑zs.length:Int)) then (bif decide ((0:Nat)+(n - i).toNat*(1:Nat) < zs.length) then (bif inR IntKind.i64 (i+(1:Int)) then some (.normal,slots 60 [(0,(.val (.string s))),(1,(.val (.string t))),(5,(.val (.int .i64 n))),(6,(.sl false 5 0 0 zs.length)),(7,(.val (.int .i64 (q_1.fdiv (256:Int))))),(8,(.val (.int .i64 (i+(1:Int)))))], [(.row (.ints .u8 (zs.set q_2 (IntKind.u8.wrap q_1))) 5 .live)]) else none) else none) else none) else none) else none) else none) else none) else none) else (bif inR IntKind.i64 (n - i) then (bif decide ((0:Int)≤n - i)&&decide (n - i < (↑zs.length:Int)) then (bif decide ((0:Nat)+(n - i).toNat*(1:Nat) < zs.length) then (bif inR IntKind.i64 (i+(1:Int)) then some (.normal,slots 60 [(0,(.val (.string s))),(1,(.val (.string t))),(5,(.val (.int .i64 n))),(6,(.sl false 5 0 0 zs.length)),(7,(.val (.int .i64 ((c+byteAt s ((↑s.size:Int) - i).toNat).fdiv (256:Int))))),(8,(.val (.int .i64 (i+(1:Int)))))], [(.row (.ints .u8 (zs.set q_2 (IntKind.u8.wrap (c+byteAt s ((↑s.size:Int) - i).toNat)))) 5 .live)]) else none) else none) else none) else none)) else none) else none) else none) else none) else (bif decide (i≤(↑t.size:Int)) then (bif inR IntKind.i64 ((↑t.size:Int) - i) then (bif decide ((0:Int)≤(↑t.size:Int) - i)&&decide ((↑t.size:Int) - i < (↑t.size:Int)) then (bif inR IntKind.i64 (byteAt t ((↑t.size:Int) - i).toNat) then (bif inR IntKind.i64 (c+byteAt t ((↑t.size:Int) - i).toNat) then (bif inR IntKind.i64 (n - i) then (bif decide ((0:Int)≤n - i)&&decide (n - i < (↑zs.length:Int)) then (bif decide ((0:Nat)+(n - i).toNat*(1:Nat) < zs.length) then (bif inR IntKind.i64 (i+(1:Int)) then some (.normal,slots 60 [(0,(.val (.string s))),(1,(.val (.string t))),(5,(.val (.int .i64 n))),(6,(.sl false 5 0 0 zs.length)),(7,(.val (.int .i64 ((c+byteAt t ((↑t.size:Int) - i).toNat).fdiv (256:Int))))),(8,(.val (.int .i64 (i+(1:Int)))))], [(.row (.ints .u8 (zs.set q_2 (IntKind.u8.wrap (c+byteAt t ((↑t.size:Int) - i).toNat)))) 5 .live)]) else none) else none) else none) else none) else none) else none) else none) else none) else (bif inR IntKind.i64 (n - i) then (bif decide ((0:Int)≤n - i)&&decide (n - i < (↑zs.length:Int)) then (bif decide ((0:Nat)+(n - i).toNat*(1:Nat) < zs.length) then (bif inR IntKind.i64 (i+(1:Int)) then some (.normal,slots 60 [(0,(.val (.string s))),(1,(.val (.string t))),(5,(.val (.int .i64 n))),(6,(.sl false 5 0 0 zs.length)),(7,(.val (.int .i64 (c.fdiv (256:Int))))),(8,(.val (.int .i64 (i+(1:Int)))))], [(.row (.ints .u8 (zs.set q_2 (IntKind.u8.wrap c))) 5 .live)]) else none) else none) else none) else none))) else some ((.exit 0),slots 60 [(0,(.val (.string s))),(1,(.val (.string t))),(5,(.val (.int .i64 n))),(6,(.sl false 5 0 0 zs.length)),(7,(.val (.int .i64 c))),(8,(.val (.int .i64 i)))], [(.row (.ints .u8 zs) 5 .live)]))):=by kernel_rfl
theorem step_radd {s:ByteArray} {t:ByteArray} {n:Int} {zs:List Int} {c:Int} {i:Int} {e:Ex} {T:List AV} {H:Hp} (h:roundA Tryz.prog EL0 136 [0,1,5,6,7,8] (lb 136 p_radd) (false :: p_radd) (sh_radd s t n zs c i) (hp_radd s t n zs c i)=some (e,T,H)):V.Ends Tryz.prog false 0 0 (lb 136 p_radd) (sh_radd s t n zs c i) (hp_radd s t n zs c i) e T H:=
 round_ends (meets_none _) loops_none mixed code_radd h
def pre_radd (s t:ByteArray) (n:Int) (zs:List Int) (c i:Int):Prop:=s.size≤8796093022208∧t.size≤8796093022208∧n=((max s.size t.size+1:Nat):Int)∧zs.length=max s.size t.size+1∧c=0∧i=1
def post_radd (s t:ByteArray) (n:Int) (zs:List Int) (c i:Int) (r:List Int×Int×Int):Prop:=r.1.length=max s.size t.size+1∧vY r.1=vS s+vS t
theorem radd_go (s t:ByteArray) (hs:s.size≤8796093022208) (ht:t.size≤8796093022208) (n:Nat) (hn:n=max s.size t.size+1) (d:Nat):∀ (i c:Nat) (zs:List Int),i+d=n→zs.length=n→c≤1→
  Aside0 (vY (zs.drop (n - i))+256 ^ i*c=vS s % 256 ^ i+vS t % 256 ^ i)→
  ∃ r:List Int×Int×Int,LoopTo Tryz.prog (lb 136 p_radd) (sh_radd s t n zs c ((i+1:Nat):Int)) (hp_radd s t n zs c ((i+1:Nat):Int)) (.exit 0) (sh_radd s t n r.1 r.2.1 r.2.2) (hp_radd s t n r.1 r.2.1 r.2.2)∧r.1.length=n∧vY r.1=vS s+vS t:=by
 induction d with
 | zero=>
  intro i c zs hi hl hc hv
  have hi':i=n:=by omega
  refine ⟨(zs,(c:Int),((i+1:Nat):Int)), .last (step_radd ?_) (by intro h;cases h),hl, ?_⟩
  ·rw [round_radd,dF (show ¬ (((i+1:Nat):Int)≤n) by omega)]
   rfl
  ·have hv:=hv.out
   rw [hi',Nat.sub_self,List.drop_zero] at hv
   have h1:vS s < 256 ^ (n - 1):=Nat.lt_of_lt_of_le (vS_lt s) (Nat.pow_le_pow_right (by decide) (by omega))
   have h2:vS t < 256 ^ (n - 1):=Nat.lt_of_lt_of_le (vS_lt t) (Nat.pow_le_pow_right (by decide) (by omega))
   have h3:256 ^ n=256 ^ (n - 1)*256:=by rw [← Nat.pow_succ];exact congrArg (256 ^ ·) (by omega)
   rw [h3] at hv
   rw [Nat.mod_eq_of_lt (show vS s < 256 ^ (n - 1)*256 by omega),Nat.mod_eq_of_lt (show vS t < 256 ^ (n - 1)*256 by omega)] at hv
   show vY zs=_
   rcases Nat.eq_zero_or_pos c with h0 | h0
   ·rw [h0] at hv;omega
   ·have:=Nat.le_mul_of_pos_right (256 ^ (n - 1)*256) h0
    omega
 | succ d ih=>
  intro i c zs hi hl hc HV
  have hin:i < n:=by omega
  have hj:n - (i+1) < zs.length:=by omega
  have go:∀ x y:Nat,x < 256→y < 256→x=vS s / 256 ^ i % 256→y=vS t / 256 ^ i % 256→
    roundA Tryz.prog EL0 136 [0,1,5,6,7,8] (lb 136 p_radd) (false :: p_radd) (sh_radd s t n zs c ((i+1:Nat):Int)) (hp_radd s t n zs c ((i+1:Nat):Int))=some (.normal,sh_radd s t n (zs.set (n - (i+1)) ((c+x+y) % 256:Nat)) ((c+x+y) / 256:Nat) ((i+1+1:Nat):Int),hp_radd s t n (zs.set (n - (i+1)) ((c+x+y) % 256:Nat)) ((c+x+y) / 256:Nat) ((i+1+1:Nat):Int))→
    ∃ r:List Int×Int×Int,LoopTo Tryz.prog (lb 136 p_radd) (sh_radd s t n zs c ((i+1:Nat):Int)) (hp_radd s t n zs c ((i+1:Nat):Int)) (.exit 0) (sh_radd s t n r.1 r.2.1 r.2.2) (hp_radd s t n r.1 r.2.1 r.2.2)∧r.1.length=n∧vY r.1=vS s+vS t:=by
   intro x y hx hy ex ey hr
   obtain ⟨r,h1,h2⟩:=ih (i+1) ((c+x+y) / 256) (zs.set (n - (i+1)) ((c+x+y) % 256:Nat)) (by omega) (by rw [List.length_set];exact hl) (by omega) (by
    have hv:=HV.out
    constructor
    rw [vY_set _ _ _ hj (Nat.mod_lt _ (by decide)),hl,show n - (n - (i+1)) - 1=i by omega,show n - (i+1)+1=n - i by omega,mod_succ,mod_succ,← ex,← ey,Nat.pow_succ]
    have h3:=byte_step (n:=c+x+y) hv
    simp only [Nat.mul_add] at h3 ⊢
    omega)
   exact ⟨r, .more (step_radd hr) h1,h2⟩
  have hr:=round_radd s t n zs c ((i+1:Nat):Int)
  have en:(n:Int) - ((i+1:Nat):Int)=((n - (i+1):Nat):Int):=by omega
  have es:i < s.size→(s.size:Int) - ((i+1:Nat):Int)=((s.size - (i+1):Nat):Int):=fun h=>by omega
  have et:i < t.size→(t.size:Int) - ((i+1:Nat):Int)=((t.size - (i+1):Nat):Int):=fun h=>by omega
  have e2:((i+1:Nat):Int)+1=((i+1+1:Nat):Int):=by omega
  have hdx:=Nat.mod_lt (vS s / 256 ^ i) (show 0 < 256 by decide)
  have hdy:=Nat.mod_lt (vS t / 256 ^ i) (show 0 < 256 by decide)
  have dx:=digit_at s i
  have dy:=digit_at t i
  have nx:=no_digit s i
  have ny:=no_digit t i
  generalize vS s / 256 ^ i % 256=x at*
  generalize vS t / 256 ^ i % 256=y at*
  have q1:inR .i64 ((n - (i+1):Nat):Int)=true:=i64L _ (by omega)
  have q2:inR .i64 ((i+1+1:Nat):Int)=true:=i64L _ (by omega)
  refine go x y hdx hdy rfl rfl ?_
  rw [en,e2,q1,q2,dT (show ((i+1:Nat):Int)≤n by omega),dT (show (0:Int)≤((n - (i+1):Nat):Int) by omega),dT (show ((n - (i+1):Nat):Int) < (zs.length:Int) by omega),Int.toNat_natCast,Nat.zero_add,Nat.mul_one,dT hj] at hr
  by_cases hsi:i < s.size
  ·rw [dT (show ((i+1:Nat):Int)≤s.size by omega),es hsi,i64L (s.size - (i+1)) (by omega),dT (show (0:Int)≤((s.size - (i+1):Nat):Int) by omega),dT (show ((s.size - (i+1):Nat):Int) < (s.size:Int) by omega),Int.toNat_natCast,dx hsi,i64L x (by omega),← Int.natCast_add,i64L (c+x) (by omega)] at hr
   by_cases hti:i < t.size
   ·rw [dT (show ((i+1:Nat):Int)≤t.size by omega),et hti,i64L (t.size - (i+1)) (by omega),dT (show (0:Int)≤((t.size - (i+1):Nat):Int) by omega),dT (show ((t.size - (i+1):Nat):Int) < (t.size:Int) by omega),Int.toNat_natCast,dy hti,i64L y (by omega),← Int.natCast_add,i64L (c+x+y) (by omega),u8w,fdiv256] at hr
    rw [hr]
    unfold sh_radd hp_radd
    rw [List.length_set]
    rfl
   ·have hy0:=ny (by omega)
    rw [dF (show ¬ ((i+1:Nat):Int)≤t.size by omega),u8w,fdiv256] at hr
    rw [hr,hy0]
    unfold sh_radd hp_radd
    rw [List.length_set]
    rfl
  ·have hx0:=nx (by omega)
   rw [dF (show ¬ ((i+1:Nat):Int)≤s.size by omega)] at hr
   by_cases hti:i < t.size
   ·rw [dT (show ((i+1:Nat):Int)≤t.size by omega),et hti,i64L (t.size - (i+1)) (by omega),dT (show (0:Int)≤((t.size - (i+1):Nat):Int) by omega),dT (show ((t.size - (i+1):Nat):Int) < (t.size:Int) by omega),Int.toNat_natCast,dy hti,i64L y (by omega),← Int.natCast_add,i64L (c+y) (by omega),u8w,fdiv256] at hr
    rw [hr,hx0]
    unfold sh_radd hp_radd
    rw [List.length_set]
    rfl
   ·have hy0:=ny (by omega)
    rw [dF (show ¬ ((i+1:Nat):Int)≤t.size by omega),u8w,fdiv256] at hr
    rw [hr,hx0,hy0]
    unfold sh_radd hp_radd
    rw [List.length_set]
    rfl
theorem loop_radd (s t:ByteArray) (n:Int) (zs:List Int) (c i:Int) (h:pre_radd s t n zs c i):∃ r:List Int×Int×Int,LoopTo Tryz.prog (lb 136 p_radd) (sh_radd s t n zs c i) (hp_radd s t n zs c i) (.exit 0) (sh_radd s t n r.1 r.2.1 r.2.2) (hp_radd s t n r.1 r.2.1 r.2.2)∧post_radd s t n zs c i r:=by
 obtain ⟨h1,h2,rfl,h4,rfl,rfl⟩:=h
 obtain ⟨r,k1,k2,k3⟩:=radd_go s t h1 h2 _ rfl (max s.size t.size+1) 0 0 zs (by omega) h4 (by omega) ⟨by rw [Nat.sub_zero,List.drop_of_length_le (by omega),vY_nil];simp [Nat.mod_one]⟩
 exact ⟨r,k1,k2,k3⟩
def told_radd (κ:ByteArray→ByteArray→Int→List Int→Int→Int→Bool) (φ:ByteArray→ByteArray→Int→List Int→Int→Int→List Int×Int×Int) (T:List AV) (H:Hp):Option (Bool×Ex×List AV×Hp):=
 match lget T 0,lget T 1,lget T 5,lget T 6,lget T 7,lget T 8,H with
 | .val (.string s), .val (.string t), .val (.int .i64 n), .sl false 5 0 0 m_zs, .val (.int .i64 c), .val (.int .i64 i), [.row (.ints .u8 zs) 5 .live]=>bif T.length==60 then some (decide (m_zs=zs.length)&&κ s t n zs c i, .exit 0,sh_radd s t n ((φ s t n zs c i).1) ((φ s t n zs c i).2.1) ((φ s t n zs c i).2.2),hp_radd s t n ((φ s t n zs c i).1) ((φ s t n zs c i).2.1) ((φ s t n zs c i).2.2)) else none
 | _,_,_,_,_,_,_=>none
abbrev KT_radd:Type:=ByteArray→ByteArray→Int→List Int→Int→Int→Bool
abbrev FT_radd:Type:=ByteArray→ByteArray→Int→List Int→Int→Int→List Int×Int×Int
def LL_radd (κ:KT_radd) (φ:FT_radd) (L:LTab):LTab:=addLn 0 136 p_radd [0,1,5,6,7,8] (told_radd κ φ) L
def phi_radd (s:ByteArray) (t:ByteArray) (n:Int) (zs:List Int) (c:Int) (i:Int):List Int×Int×Int:=Classical.epsilon fun ρ=>LoopTo Tryz.prog (lb 136 p_radd) (sh_radd s t n zs c i) (hp_radd s t n zs c i) (.exit 0) (sh_radd s t n (ρ.1) (ρ.2.1) (ρ.2.2)) (hp_radd s t n (ρ.1) (ρ.2.1) (ρ.2.2))∧post_radd s t n zs c i ρ
theorem phi_radd_spec (s:ByteArray) (t:ByteArray) (n:Int) (zs:List Int) (c:Int) (i:Int) (h:pre_radd s t n zs c i):LoopTo Tryz.prog (lb 136 p_radd) (sh_radd s t n zs c i) (hp_radd s t n zs c i) (.exit 0) (sh_radd s t n ((phi_radd s t n zs c i).1) ((phi_radd s t n zs c i).2.1) ((phi_radd s t n zs c i).2.2)) (hp_radd s t n ((phi_radd s t n zs c i).1) ((phi_radd s t n zs c i).2.1) ((phi_radd s t n zs c i).2.2))∧post_radd s t n zs c i (phi_radd s t n zs c i):=Classical.epsilon_spec (loop_radd s t n zs c i h)
def cond_radd (s:ByteArray) (t:ByteArray) (n:Int) (zs:List Int) (c:Int) (i:Int):Bool:= @decide (pre_radd s t n zs c i) (Classical.propDecidable _)
theorem cond_radd_eq (s:ByteArray) (t:ByteArray) (n:Int) (zs:List Int) (c:Int) (i:Int) (h:pre_radd s t n zs c i):cond_radd s t n zs c i=true:= @decide_eq_true _ (Classical.propDecidable _) h
theorem told_radd_ok (T:List AV) (H:Hp) (e:Ex) (T1:List AV) (H1:Hp) (h:told_radd cond_radd phi_radd T H=some (true,e,T1,H1)):V.Ends Tryz.prog false 0 0 (.loop (lb 136 p_radd)) T H e T1 H1:=by
 unfold told_radd at h
 split at h
 ·rename_i s t n m_zs c i zs h0 h1 h5 h6 h7 h8
  rw [Bool.cond_eq_ite] at h
  split at h
  ·rename_i hlen
   rw [beq_iff_eq] at hlen
   simp only [Option.some.injEq,Prod.mk.injEq,Bool.and_eq_true,decide_eq_true_eq] at h
   obtain ⟨⟨k1,k2⟩,rfl,rfl,rfl⟩:=h
   have kc:= @of_decide_eq_true _ (Classical.propDecidable _) k2
   refine Ends.pre (phi_radd_spec s t n zs c i kc).1.ends (fun α B w D ys hr=>slots_rel hlen (fun p hp y hy=> ?_) hr)
   simp only [List.mem_cons,List.not_mem_nil,or_false] at hp
   rcases hp with rfl | rfl | rfl | rfl | rfl | rfl
   ·rw [h0] at hy;exact hy
   ·rw [h1] at hy;exact hy
   ·rw [h5] at hy;exact hy
   ·rw [h6] at hy;rw [← k1];exact hy
   ·rw [h7] at hy;exact hy
   ·rw [h8] at hy;exact hy
  ·cases h
 ·cases h
theorem LL_radd_ok {L:LTab} (h:LOk Tryz.prog L):LOk Tryz.prog (LL_radd cond_radd phi_radd L):=h.add2n body_radd told_radd_ok
def ERa (S:Sg) (κ:KT_radd) (φ:FT_radd):Env:= ⟨addC 160 (tStrip S) noC,Kall,LL_radd κ φ noL⟩
theorem radd_call (S:Sg) (κ:KT_radd) (φ:FT_radd) (s t:ByteArray):letI q_3:=(mxI (↑s.size:Int) (↑t.size:Int));letI q_1:=(q_3+(1:Int));letI q_2:=(φ s t q_1 (List.replicate q_1.toNat (0:Int)) (0:Int) (1:Int));
  (callA Tryz.prog (ERa S κ φ) 10 10 136 [.val (.string s), .val (.string t)]=(bif inR IntKind.i64 q_1 then (bif decide ((0:Int)≤q_3+(1:Int))&&decide (q_3+(1:Int)≤q_3+(1:Int))&&decide ((1:Int)*q_1≤(281474976710656:Int))&&decide (q_3+(1:Int)≤(9223372036854775807:Int)) then (bif decide (q_1.toNat=(List.replicate q_1.toNat (0:Int)).length)&&κ s t q_1 (List.replicate q_1.toNat (0:Int)) (0:Int) (1:Int) then (bif decide ((0:Nat)+q_2.fst.length*(1:Nat)≤q_2.fst.length) then some (.val (.string (S.mg (S.vs (ofBytes (List.take (q_2.fst.length*(1:Nat)) (List.drop (0:Nat) q_2.fst))))))) else none) else none) else none) else none)):=by kernel_rfl
def tRAddM (S:Sg) (args:List AV):Option (Bool×AV):=match args with | [.val (.string s), .val (.string t)]=>some (S.ok s&&S.ok t, .val (.string (S.mg (S.vs s+S.vs t)))) | _=>none
theorem ok_size {s:ByteArray} (h:sg0.ok s=true):s.size≤8796093022208:=of_decide_eq_true h
theorem eRAddM:Entry Tryz.prog 136 (tRAddM sg0):=by
 refine entry_of (E:=ERa sg0 cond_radd phi_radd) (u:=10) (d:=10) ((meets_none _).add eRTrim) (LL_radd_ok LOk.none).ok mixed (by kernel_rfl) (fun args r h=> ?_)
 unfold tRAddM at h
 split at h
 ·rename_i s t
  simp only [Option.some.injEq,Prod.mk.injEq,Bool.and_eq_true] at h
  obtain ⟨⟨h1,h2⟩,rfl⟩:=h
  have z1:=ok_size h1
  have z2:=ok_size h2
  have e1:((max s.size t.size:Nat):Int)+1=((max s.size t.size+1:Nat):Int):=by omega
  have hp:pre_radd s t ((max s.size t.size+1:Nat):Int) (List.replicate (max s.size t.size+1) 0) 0 1:= ⟨z1,z2,rfl,by simp,rfl,rfl⟩
  obtain ⟨_,c1,c2⟩:=phi_radd_spec _ _ _ _ _ _ hp
  have hcall:=radd_call sg0 cond_radd phi_radd s t
  simp only [mxI_nat,e1,Int.toNat_natCast,List.length_replicate,eq_self,decide_true,Nat.mul_one,Nat.zero_add,List.drop_zero] at hcall
  rw [cond_radd_eq _ _ _ _ _ _ hp] at hcall
  generalize phi_radd s t ((max s.size t.size+1:Nat):Int) (List.replicate (max s.size t.size+1) 0) 0 1=q at*
  have e2:sg0.vs (ofBytes q.1)=sg0.vs s+sg0.vs t:=c2
  rw [i64L _ (by omega),dT (show (0:Int)≤((max s.size t.size+1:Nat):Int) by omega),dT (show ((max s.size t.size+1:Nat):Int)≤((max s.size t.size+1:Nat):Int) by omega),dT (show (1:Int)*((max s.size t.size+1:Nat):Int)≤281474976710656 by omega),dT (show ((max s.size t.size+1:Nat):Int)≤9223372036854775807 by omega),dT (show q.1.length≤q.1.length by omega),List.take_length,e2] at hcall
  exact hcall
 ·cases h
abbrev p_rsub:List Bool:= [false,true,false,true,true,true]
def sh_rsub (s:ByteArray) (t:ByteArray) (zs:List Int) (c:Int) (i:Int):List AV:=slots 55 [(0, .val (.string s)),(1, .val (.string t)),(5, .sl false 5 0 0 zs.length),(6, .val (.int .i64 c)),(7, .val (.int .i64 i))]
def hp_rsub (s:ByteArray) (t:ByteArray) (zs:List Int) (c:Int) (i:Int):Hp:= [.row (.ints .u8 zs) 5 .live]
theorem body_rsub:subC Tryz.prog 137 p_rsub=some (.loop (lb 137 p_rsub)):=by kernel_rfl
theorem code_rsub:subC Tryz.prog 137 (false :: p_rsub)=some (lb 137 p_rsub):=by kernel_rfl
theorem round_rsub (s:ByteArray) (t:ByteArray) (zs:List Int) (c:Int) (i:Int):letI q_1:=((0:Nat)+((↑s.size:Int) - i).toNat*(1:Nat));letI q_2:=(byteAt s ((↑s.size:Int) - i).toNat - c - byteAt t ((↑t.size:Int) - i).toNat+(256:Int));
  (roundA Tryz.prog EL0 137 [0,1,5,6,7] (lb 137 p_rsub) (false :: p_rsub) (sh_rsub s t zs c i) (hp_rsub s t zs c i)=(bif decide (i≤(↑s.size:Int)) then (bif inR IntKind.i64 ((↑s.size:Int) - i) then (bif decide ((0:Int)≤(↑s.size:Int) - i)&&decide ((↑s.size:Int) - i < (↑s.size:Int)) then (bif inR IntKind.i64 (byteAt s ((↑s.size:Int) - i).toNat) then (bif inR IntKind.i64 (byteAt s ((↑s.size:Int) - i).toNat - c) then (bif decide (i≤(↑t.size:Int)) then (bif inR IntKind.i64 ((↑t.size:Int) - i) then (bif decide ((0:Int)≤(↑t.size:Int) - i)&&decide ((↑t.size:Int) - i < (↑t.size:Int)) then (bif inR IntKind.i64 (byteAt t ((↑t.size:Int) - i).toNat) then (bif inR IntKind.i64 (byteAt s ((↑s.size:Int) - i).toNat - c - byteAt t ((↑t.size:Int) - i).toNat) then (bif decide (byteAt s ((↑s.size:Int) - i).toNat - c - byteAt t ((↑t.size:Int) - i).toNat < (0:Int)) then (bif inR IntKind.i64 q_2 then (bif inR IntKind.i64 ((↑s.size:Int) - i) then (bif decide ((0:Int)≤(↑s.size:Int) - i)&&decide ((↑s.size:Int) - i < (↑zs.length:Int)) then (bif decide ((0:Nat)+((↑s.size:Int) - i).toNat*(1:Nat) < zs.length) then (bif inR IntKind.i64 (i+(1:Int)) then some (.normal,slots 55 [(0,(.val (.string s))),(1,(.val (.string t))),(5,(.sl false 5 0 0 zs.length)),(6,(.val (.int .i64 1))),(7,(.val (.int .i64 (i+(1:Int)))))], [(.row (.ints .u8 (zs.set q_1 (IntKind.u8.wrap q_2))) 5 .live)]) else none) else none) else none) else none) else none) else (bif inR IntKind.i64 ((↑s.size:Int) - i) then (bif decide ((0:Int)≤(↑s.size:Int) - i)&&decide ((↑s.size:Int) - i < (↑zs.length:Int)) then (bif decide ((0:Nat)+((↑s.size:Int) - i).toNat*(1:Nat) < zs.length) then (bif inR IntKind.i64 (i+(1:Int)) then some (.normal,slots 55 [(0,(.val (.string s))),(1,(.val (.string t))),(5,(.sl false 5 0 0 zs.length)),(6,(.val (.int .i64 0))),(7,(.val (.int .i64 (i+(1:Int)))))], [(.row (.ints .u8 (zs.set q_1 (IntKind.u8.wrap (byteAt s ((↑s.size:Int) - i).toNat - c - byteAt t ((↑t.size:Int) - i).toNat)))) 5 .live)]) else none) else none) else none) else none)) else none) else none) else none) else none) else (bif decide (byteAt s ((↑s.size:Int) - i).toNat - c < (0:Int)) then (bif inR IntKind.i64 (byteAt s ((↑s.size:Int) - i).toNat - c+(256:Int)) then (bif inR IntKind.i64 ((↑s.size:Int) - i) then (bif decide ((0:Int)≤(↑s.size:Int) - i)&&decide ((↑s.size:Int) - i < (↑zs.length:Int)) then (bif decide ((0:Nat)+((↑s.size:Int) - i).toNat*(1:Nat) < zs.length) then (bif inR IntKind.i64 (i+(1:Int)) then some (.normal,slots 55 [(0,(.val (.string s))),(1,(.val (.string t))),(5,(.sl false 5 0 0 zs.length)),(6,(.val (.int .i64 1))),(7,(.val (.int .i64 (i+(1:Int)))))], [(.row (.ints .u8 (zs.set q_1 (IntKind.u8.wrap (byteAt s ((↑s.size:Int) - i).toNat - c+(256:Int))))) 5 .live)]) else none) else none) else none) else none) else none) else (bif inR IntKind.i64 ((↑s.size:Int) - i) then (bif decide ((0:Int)≤(↑s.size:Int) - i)&&decide ((↑s.size:Int) - i < (↑zs.length:Int)) then (bif decide ((0:Nat)+((↑s.size:Int) - i).toNat*(1:Nat) < zs.length) then (bif inR IntKind.i64 (i+(1:Int)) then some (.normal,slots 55 [(0,(.val (.string s))),(1,(.val (.string t))),(5,(.sl false 5 0 0 zs.length)),(6,(.val (.int .i64 0))),(7,(.val (.int .i64 (i+(1:Int)))))], [(.row (.ints .u8 (zs.set q_1 (IntKind.u8.wrap (byteAt s ((↑s.size:Int) - i).toNat - c)))) 5 .live)]) else none) else none) else none) else none))) else none) else none) else none) else none) else some ((.exit 0),slots 55 [(0,(.val (.string s))),(1,(.val (.string t))),(5,(.sl false 5 0 0 zs.length)),(6,(.val (.int .i64 c))),(7,(.val (.int .i64 i)))], [(.row (.ints .u8 zs) 5 .live)]))):=by kernel_rfl
theorem step_rsub {s:ByteArray} {t:ByteArray} {zs:List Int} {c:Int} {i:Int} {e:Ex} {T:List AV} {H:Hp} (h:roundA Tryz.prog EL0 137 [0,1,5,6,7] (lb 137 p_rsub) (false :: p_rsub) (sh_rsub s t zs c i) (hp_rsub s t zs c i)=some (e,T,H)):V.Ends Tryz.prog false 0 0 (lb 137 p_rsub) (sh_rsub s t zs c i) (hp_rsub s t zs c i) e T H:=
 round_ends (meets_none _) loops_none mixed code_rsub h
def pre_rsub (s t:ByteArray) (zs:List Int) (c i:Int):Prop:=s.size≤8796093022208∧t.size≤8796093022208∧vS t≤vS s∧zs.length=s.size∧c=0∧i=1
def post_rsub (s t:ByteArray) (zs:List Int) (c i:Int) (r:List Int×Int×Int):Prop:=r.1.length=s.size∧vY r.1=vS s - vS t
theorem rsub_go (s t:ByteArray) (hs:s.size≤8796093022208) (ht:t.size≤8796093022208) (hle:vS t≤vS s) (d:Nat):∀ (i c:Nat) (zs:List Int),i+d=s.size→zs.length=s.size→c≤1→
  Aside0 (vY (zs.drop (s.size - i))+vS t % 256 ^ i=vS s % 256 ^ i+256 ^ i*c)→
  ∃ r:List Int×Int×Int,LoopTo Tryz.prog (lb 137 p_rsub) (sh_rsub s t zs c ((i+1:Nat):Int)) (hp_rsub s t zs c ((i+1:Nat):Int)) (.exit 0) (sh_rsub s t r.1 r.2.1 r.2.2) (hp_rsub s t r.1 r.2.1 r.2.2)∧r.1.length=s.size∧vY r.1=vS s - vS t:=by
 induction d with
 | zero=>
  intro i c zs hi hl hc hv
  have hi':i=s.size:=by omega
  refine ⟨(zs,(c:Int),((i+1:Nat):Int)), .last (step_rsub ?_) (by intro h;cases h),hl, ?_⟩
  ·rw [round_rsub,dF (show ¬ (((i+1:Nat):Int)≤s.size) by omega)]
   rfl
  ·have hv:=hv.out
   have h1:=vS_lt s
   rw [hi',Nat.sub_self,List.drop_zero,Nat.mod_eq_of_lt h1,Nat.mod_eq_of_lt (show vS t < 256 ^ s.size by omega)] at hv
   have h2:vY zs < 256 ^ s.size:=by
    have:=vB_lt (zs.map fun z=>UInt8.ofNat z.toNat)
    rw [List.length_map,hl] at this
    exact this
   show vY zs=_
   rcases (show c=0∨c=1 by omega) with h0 | h0
   ·rw [h0] at hv;omega
   ·rw [h0] at hv;omega
 | succ d ih=>
  intro i c zs hi hl hc HV
  have hin:i < s.size:=by omega
  have hj:s.size - (i+1) < zs.length:=by omega
  have go:∀ x y z b:Nat,x < 256→y < 256→x=vS s / 256 ^ i % 256→y=vS t / 256 ^ i % 256→z < 256→b≤1→z+y+c=x+256*b→
    roundA Tryz.prog EL0 137 [0,1,5,6,7] (lb 137 p_rsub) (false :: p_rsub) (sh_rsub s t zs c ((i+1:Nat):Int)) (hp_rsub s t zs c ((i+1:Nat):Int))=some (.normal,sh_rsub s t (zs.set (s.size - (i+1)) (z:Nat)) (b:Nat) ((i+1+1:Nat):Int),hp_rsub s t (zs.set (s.size - (i+1)) (z:Nat)) (b:Nat) ((i+1+1:Nat):Int))→
    ∃ r:List Int×Int×Int,LoopTo Tryz.prog (lb 137 p_rsub) (sh_rsub s t zs c ((i+1:Nat):Int)) (hp_rsub s t zs c ((i+1:Nat):Int)) (.exit 0) (sh_rsub s t r.1 r.2.1 r.2.2) (hp_rsub s t r.1 r.2.1 r.2.2)∧r.1.length=s.size∧vY r.1=vS s - vS t:=by
   intro x y z b hx hy ex ey hz hb hzb hr
   obtain ⟨r,h1,h2⟩:=ih (i+1) b (zs.set (s.size - (i+1)) (z:Nat)) (by omega) (by rw [List.length_set];exact hl) hb (by
    have hv:=HV.out
    constructor
    rw [vY_set _ _ _ hj hz,hl,show s.size - (s.size - (i+1)) - 1=i by omega,show s.size - (i+1)+1=s.size - i by omega,mod_succ,mod_succ,← ex,← ey,Nat.pow_succ]
    have h3:=congrArg (256 ^ i* ·) hzb
    simp only [Nat.mul_add] at h3
    rw [← Nat.mul_assoc] at h3
    rw [Nat.mul_comm z]
    omega)
   exact ⟨r, .more (step_rsub hr) h1,h2⟩
  have hr:=round_rsub s t zs c ((i+1:Nat):Int)
  have es:(s.size:Int) - ((i+1:Nat):Int)=((s.size - (i+1):Nat):Int):=by omega
  have et:i < t.size→(t.size:Int) - ((i+1:Nat):Int)=((t.size - (i+1):Nat):Int):=fun h=>by omega
  have e2:((i+1:Nat):Int)+1=((i+1+1:Nat):Int):=by omega
  have hdx:=Nat.mod_lt (vS s / 256 ^ i) (show 0 < 256 by decide)
  have hdy:=Nat.mod_lt (vS t / 256 ^ i) (show 0 < 256 by decide)
  have dx:=digit_at s i hin
  have dy:=digit_at t i
  have ny:=no_digit t i
  generalize vS s / 256 ^ i % 256=x at*
  generalize vS t / 256 ^ i % 256=y at*
  have q1:inR .i64 ((s.size - (i+1):Nat):Int)=true:=i64L _ (by omega)
  have q2:inR .i64 ((i+1+1:Nat):Int)=true:=i64L _ (by omega)
  rw [es,e2,q1,q2,dT (show ((i+1:Nat):Int)≤s.size by omega),dT (show (0:Int)≤((s.size - (i+1):Nat):Int) by omega),dT (show ((s.size - (i+1):Nat):Int) < (zs.length:Int) by omega),dT (show ((s.size - (i+1):Nat):Int) < (s.size:Int) by omega),Int.toNat_natCast,Nat.zero_add,Nat.mul_one,dT hj,dx,i64L x (by omega),i64T (show -9223372036854775808≤(x:Int) - c∧(x:Int) - c≤9223372036854775807 by omega)] at hr
  by_cases hti:i < t.size
  ·rw [dT (show ((i+1:Nat):Int)≤t.size by omega),et hti,i64L (t.size - (i+1)) (by omega),dT (show (0:Int)≤((t.size - (i+1):Nat):Int) by omega),dT (show ((t.size - (i+1):Nat):Int) < (t.size:Int) by omega),Int.toNat_natCast,dy hti,i64L y (by omega),i64T (show -9223372036854775808≤(x:Int) - c - y∧(x:Int) - c - y≤9223372036854775807 by omega)] at hr
   by_cases hlt:(x:Int) - c - y < 0
   ·have e3:(x:Int) - c - y+256=((x+256 - c - y:Nat):Int):=by omega
    rw [dT hlt,e3,i64L _ (by omega),u8w,Nat.mod_eq_of_lt (by omega)] at hr
    refine go x y (x+256 - c - y) 1 hdx hdy rfl rfl (by omega) (by omega) (by omega) ?_
    rw [hr]
    unfold sh_rsub hp_rsub
    rw [List.length_set]
    rfl
   ·have e3:(x:Int) - c - y=((x - c - y:Nat):Int):=by omega
    rw [dF hlt,e3,u8w,Nat.mod_eq_of_lt (by omega)] at hr
    refine go x y (x - c - y) 0 hdx hdy rfl rfl (by omega) (by omega) (by omega) ?_
    rw [hr]
    unfold sh_rsub hp_rsub
    rw [List.length_set]
    rfl
  ·have hy0:=ny (by omega)
   rw [dF (show ¬ ((i+1:Nat):Int)≤t.size by omega)] at hr
   by_cases hlt:(x:Int) - c < 0
   ·have e3:(x:Int) - c+256=((x+256 - c:Nat):Int):=by omega
    rw [dT hlt,e3,i64L _ (by omega),u8w,Nat.mod_eq_of_lt (by omega)] at hr
    refine go x y (x+256 - c) 1 hdx hdy rfl rfl (by omega) (by omega) (by omega) ?_
    rw [hr]
    unfold sh_rsub hp_rsub
    rw [List.length_set]
    rfl
   ·have e3:(x:Int) - c=((x - c:Nat):Int):=by omega
    rw [dF hlt,e3,u8w,Nat.mod_eq_of_lt (by omega)] at hr
    refine go x y (x - c) 0 hdx hdy rfl rfl (by omega) (by omega) (by omega) ?_
    rw [hr]
    unfold sh_rsub hp_rsub
    rw [List.length_set]
    rfl
theorem loop_rsub (s t:ByteArray) (zs:List Int) (c i:Int) (h:pre_rsub s t zs c i):∃ r:List Int×Int×Int,LoopTo Tryz.prog (lb 137 p_rsub) (sh_rsub s t zs c i) (hp_rsub s t zs c i) (.exit 0) (sh_rsub s t r.1 r.2.1 r.2.2) (hp_rsub s t r.1 r.2.1 r.2.2)∧post_rsub s t zs c i r:=by
 obtain ⟨h1,h2,h3,h4,rfl,rfl⟩:=h
 obtain ⟨r,k1,k2,k3⟩:=rsub_go s t h1 h2 h3 s.size 0 0 zs (by omega) h4 (by omega) ⟨by rw [Nat.sub_zero,List.drop_of_length_le (by omega),vY_nil];simp [Nat.mod_one]⟩
 exact ⟨r,k1,k2,k3⟩
def told_rsub (κ:ByteArray→ByteArray→List Int→Int→Int→Bool) (φ:ByteArray→ByteArray→List Int→Int→Int→List Int×Int×Int) (T:List AV) (H:Hp):Option (Bool×Ex×List AV×Hp):=
 match lget T 0,lget T 1,lget T 5,lget T 6,lget T 7,H with
 | .val (.string s), .val (.string t), .sl false 5 0 0 m_zs, .val (.int .i64 c), .val (.int .i64 i), [.row (.ints .u8 zs) 5 .live]=>bif T.length==55 then some (decide (m_zs=zs.length)&&κ s t zs c i, .exit 0,sh_rsub s t ((φ s t zs c i).1) ((φ s t zs c i).2.1) ((φ s t zs c i).2.2),hp_rsub s t ((φ s t zs c i).1) ((φ s t zs c i).2.1) ((φ s t zs c i).2.2)) else none
 | _,_,_,_,_,_=>none
abbrev KT_rsub:Type:=ByteArray→ByteArray→List Int→Int→Int→Bool
abbrev FT_rsub:Type:=ByteArray→ByteArray→List Int→Int→Int→List Int×Int×Int
def LL_rsub (κ:KT_rsub) (φ:FT_rsub) (L:LTab):LTab:=addLn 0 137 p_rsub [0,1,5,6,7] (told_rsub κ φ) L
def phi_rsub (s:ByteArray) (t:ByteArray) (zs:List Int) (c:Int) (i:Int):List Int×Int×Int:=Classical.epsilon fun ρ=>LoopTo Tryz.prog (lb 137 p_rsub) (sh_rsub s t zs c i) (hp_rsub s t zs c i) (.exit 0) (sh_rsub s t (ρ.1) (ρ.2.1) (ρ.2.2)) (hp_rsub s t (ρ.1) (ρ.2.1) (ρ.2.2))∧post_rsub s t zs c i ρ
theorem phi_rsub_spec (s:ByteArray) (t:ByteArray) (zs:List Int) (c:Int) (i:Int) (h:pre_rsub s t zs c i):LoopTo Tryz.prog (lb 137 p_rsub) (sh_rsub s t zs c i) (hp_rsub s t zs c i) (.exit 0) (sh_rsub s t ((phi_rsub s t zs c i).1) ((phi_rsub s t zs c i).2.1) ((phi_rsub s t zs c i).2.2)) (hp_rsub s t ((phi_rsub s t zs c i).1) ((phi_rsub s t zs c i).2.1) ((phi_rsub s t zs c i).2.2))∧post_rsub s t zs c i (phi_rsub s t zs c i):=Classical.epsilon_spec (loop_rsub s t zs c i h)
def cond_rsub (s:ByteArray) (t:ByteArray) (zs:List Int) (c:Int) (i:Int):Bool:= @decide (pre_rsub s t zs c i) (Classical.propDecidable _)
theorem cond_rsub_eq (s:ByteArray) (t:ByteArray) (zs:List Int) (c:Int) (i:Int) (h:pre_rsub s t zs c i):cond_rsub s t zs c i=true:= @decide_eq_true _ (Classical.propDecidable _) h
theorem told_rsub_ok (T:List AV) (H:Hp) (e:Ex) (T1:List AV) (H1:Hp) (h:told_rsub cond_rsub phi_rsub T H=some (true,e,T1,H1)):V.Ends Tryz.prog false 0 0 (.loop (lb 137 p_rsub)) T H e T1 H1:=by
 unfold told_rsub at h
 split at h
 ·rename_i s t m_zs c i zs h0 h1 h5 h6 h7
  rw [Bool.cond_eq_ite] at h
  split at h
  ·rename_i hlen
   rw [beq_iff_eq] at hlen
   simp only [Option.some.injEq,Prod.mk.injEq,Bool.and_eq_true,decide_eq_true_eq] at h
   obtain ⟨⟨k1,k2⟩,rfl,rfl,rfl⟩:=h
   have kc:= @of_decide_eq_true _ (Classical.propDecidable _) k2
   refine Ends.pre (phi_rsub_spec s t zs c i kc).1.ends (fun α B w D ys hr=>slots_rel hlen (fun p hp y hy=> ?_) hr)
   simp only [List.mem_cons,List.not_mem_nil,or_false] at hp
   rcases hp with rfl | rfl | rfl | rfl | rfl
   ·rw [h0] at hy;exact hy
   ·rw [h1] at hy;exact hy
   ·rw [h5] at hy;rw [← k1];exact hy
   ·rw [h6] at hy;exact hy
   ·rw [h7] at hy;exact hy
  ·cases h
 ·cases h
theorem LL_rsub_ok {L:LTab} (h:LOk Tryz.prog L):LOk Tryz.prog (LL_rsub cond_rsub phi_rsub L):=h.add2n body_rsub told_rsub_ok
def ERu (S:Sg) (κ:KT_rsub) (φ:FT_rsub):Env:= ⟨addC 160 (tStrip S) noC,Kall,LL_rsub κ φ noL⟩
theorem rsub_call (S:Sg) (κ:KT_rsub) (φ:FT_rsub) (s t:ByteArray):callA Tryz.prog (ERu S κ φ) 10 10 137 [.val (.string s), .val (.string t)]=
  (bif decide ((↑s.size:Int)≤(↑s.size:Int))&&decide ((1:Int)*(↑s.size:Int)≤(281474976710656:Int))&&decide ((↑s.size:Int)≤(9223372036854775807:Int)) then (bif decide ((↑s.size:Int).toNat=(List.replicate (↑s.size:Int).toNat (0:Int)).length)&&κ s t (List.replicate (↑s.size:Int).toNat (0:Int)) (0:Int) (1:Int) then (bif decide ((0:Nat)+(φ s t (List.replicate (↑s.size:Int).toNat (0:Int)) (0:Int) (1:Int)).fst.length*(1:Nat)≤(φ s t (List.replicate (↑s.size:Int).toNat (0:Int)) (0:Int) (1:Int)).fst.length) then some (.val (.string (S.mg (S.vs (ofBytes (List.take ((φ s t (List.replicate (↑s.size:Int).toNat (0:Int)) (0:Int) (1:Int)).fst.length*(1:Nat)) (List.drop (0:Nat) (φ s t (List.replicate (↑s.size:Int).toNat (0:Int)) (0:Int) (1:Int)).fst))))))) else none) else none) else none):=by kernel_rfl
def tRSubM (S:Sg) (args:List AV):Option (Bool×AV):=match args with | [.val (.string s), .val (.string t)]=>some (S.ok s&&S.ok t&&decide (S.vs t≤S.vs s), .val (.string (S.mg (S.vs s - S.vs t)))) | _=>none
theorem eRSubM:Entry Tryz.prog 137 (tRSubM sg0):=by
 refine entry_of (E:=ERu sg0 cond_rsub phi_rsub) (u:=10) (d:=10) ((meets_none _).add eRTrim) (LL_rsub_ok LOk.none).ok mixed (by kernel_rfl) (fun args r h=> ?_)
 unfold tRSubM at h
 split at h
 ·rename_i s t
  simp only [Option.some.injEq,Prod.mk.injEq,Bool.and_eq_true,decide_eq_true_eq] at h
  obtain ⟨⟨⟨h1,h2⟩,h3⟩,rfl⟩:=h
  have z1:=ok_size h1
  have z2:=ok_size h2
  have hp:pre_rsub s t (List.replicate s.size 0) 0 1:= ⟨z1,z2,h3,by simp,rfl,rfl⟩
  obtain ⟨_,c1,c2⟩:=phi_rsub_spec _ _ _ _ _ hp
  have hcall:=rsub_call sg0 cond_rsub phi_rsub s t
  simp only [Int.toNat_natCast,List.length_replicate,eq_self,decide_true,Nat.mul_one,Nat.zero_add,List.drop_zero] at hcall
  rw [cond_rsub_eq _ _ _ _ _ hp] at hcall
  generalize phi_rsub s t (List.replicate s.size 0) 0 1=q at*
  have e2:sg0.vs (ofBytes q.1)=sg0.vs s - sg0.vs t:=c2
  rw [dT (show (s.size:Int)≤(s.size:Int) by omega),dT (show (1:Int)*(s.size:Int)≤281474976710656 by omega),dT (show (s.size:Int)≤9223372036854775807 by omega),dT (show q.1.length≤q.1.length by omega),List.take_length,e2] at hcall
  exact hcall
 ·cases h
end
end Go.Proofs.YtamcpiicmfielaaGreat.L
namespace Go.Proofs.YtamcpiicmfielaaGreat.L
open Go Go.V Go.RowKit Go.Proofs.YtamcpiicmfielaaGreat.Sp Go.Proofs.YtamcpiicmfielaaGreat.F Go.Proofs.YtamcpiicmfielaaGreatW.PrintWords
open Go.Proofs (Tryz.prog)
noncomputable section
theorem msnil (z:Int):strEq (sg0.ms z) (ByteArray.mk #[])=decide (z=0):=by
 show strEq (magOf z.natAbs) _=_
 rw [magOf_nil]
 exact decide_eq_decide.2 (by omega)
theorem ofBytes_mag {zs:List Int} {n:Nat} (h:zs.map (fun z=>UInt8.ofNat z.toNat)=toB n):ofBytes zs=magOf n:=by
 apply bytes_ext
 rw [magOf_data]
 exact h
def tRMag (S:Sg) (args:List AV):Option (Bool×AV):=match args with | [.val (.int .i64 z)]=>some (decide (0≤z)&&decide (z≤9223372036854775807), .val (.string (S.mg z.toNat))) | _=>none
theorem eRMag:Entry Tryz.prog 159 (tRMag sg0):=by
 refine entry_of (E:=ERm cond_rmag phi_rmag) (u:=10) (d:=10) (meets_none _) (LL_rmag_ok LOk.none).ok mixed (by kernel_rfl) (fun args r h=> ?_)
 unfold tRMag at h
 split at h
 ·rename_i z
  simp only [Option.some.injEq,Prod.mk.injEq,Bool.and_eq_true,decide_eq_true_eq] at h
  obtain ⟨⟨h1,h2⟩,rfl⟩:=h
  obtain ⟨n,rfl⟩:=Int.eq_ofNat_of_zero_le h1
  rw [Int.toNat_natCast]
  have hcall:=rmag_call cond_rmag phi_rmag (n:Int)
  by_cases h3:n < 256
  ·rw [dT (show (n:Int) < 256 by omega)] at hcall
   by_cases h0:n=0
   ·subst h0
    rw [dT (show ((0:Nat):Int)=0 from rfl)] at hcall
    rw [hcall]
    show _=some (AV.val (.string (magOf 0)))
    unfold magOf
    rw [toB_zero]
    rfl
   ·rw [dF (show ¬ (n:Int)=0 by omega)] at hcall
    rw [hcall]
    show some (AV.val (.string (ofBytes [IntKind.u8.wrap (n:Int)])))=some (AV.val (.string (magOf n)))
    rw [ofBytes_mag (n:=n)]
    rw [toB_pos h0,Nat.div_eq_of_lt h3,toB_zero,List.nil_append,u8w,Nat.mod_eq_of_lt h3]
    rfl
  ·have hp:pre_rmag (n:Int) 8 [0,0,0,0,0,0,0,0]:= ⟨h1,h2,rfl,rfl⟩
   obtain ⟨_,k,e1,e2,e3,e4⟩:=phi_rmag_spec _ _ _ hp
   rw [dF (show ¬ (n:Int) < 256 by omega),cond_rmag_eq _ _ _ hp] at hcall
   generalize phi_rmag (n:Int) 8 [0,0,0,0,0,0,0,0]=r at*
   rw [e1,e3,dT (show 8≤8 by omega),dT (show (0:Int)≤(k:Int) by omega),dT (show (k:Int)≤8 by omega),Int.toNat_natCast,dT (show 0+k*1+(8 - k)*1≤8 by omega)] at hcall
   rw [hcall]
   show some (AV.val (.string (ofBytes _)))=some (AV.val (.string (magOf n)))
   rw [ofBytes_mag (n:=n)]
   rw [Nat.zero_add,Nat.mul_one,Nat.mul_one,List.take_of_length_le (by rw [List.length_drop];omega)]
   exact e4
 ·cases h
theorem rof2_call (S:Sg) (z:Int):callA Tryz.prog ⟨addC 159 (tRMag S) noC,Kall,noL⟩ 10 10 124 [.val (.int .i64 z)]=
  (bif decide ((0:Int)≤z) then (bif decide ((0:Int)≤z)&&decide (z≤(9223372036854775807:Int)) then some (.agg [(.val (.bool false)),(.val (.string (S.mg z.toNat)))]) else none) else (bif decide (z=IntKind.i64.wrap ((0:Int) - z)) then some (.agg [(.val (.bool true)),(.val (.string (ByteArray.mk #[(128:UInt8),(0:UInt8),(0:UInt8),(0:UInt8),(0:UInt8),(0:UInt8),(0:UInt8),(0:UInt8)])))]) else (bif decide ((0:Int)≤IntKind.i64.wrap ((0:Int) - z))&&decide (IntKind.i64.wrap ((0:Int) - z)≤(9223372036854775807:Int)) then some (.agg [(.val (.bool true)),(.val (.string (S.mg (IntKind.i64.wrap ((0:Int) - z)).toNat)))]) else none))):=by kernel_rfl
theorem min_mag:ByteArray.mk #[(128:UInt8),(0:UInt8),(0:UInt8),(0:UInt8),(0:UInt8),(0:UInt8),(0:UInt8),(0:UInt8)]=magOf 9223372036854775808:=
 (magOf_of_lead (ByteArray.mk #[(128:UInt8),(0:UInt8),(0:UInt8),(0:UInt8),(0:UInt8),(0:UInt8),(0:UInt8),(0:UInt8)]) (by show ¬ (128:UInt8)=0;decide)).symm
theorem int_neg {z:Int} (h:z < 0):sg0.int z= .agg [.val (.bool true), .val (.string (sg0.mg z.natAbs))]:=by
 unfold Sg.int
 rw [ng_eq,decide_eq_true h];rfl
theorem int_nn {z:Int} (h:0≤z):sg0.int z= .agg [.val (.bool false), .val (.string (sg0.mg z.natAbs))]:=by
 unfold Sg.int
 rw [ng_eq,decide_eq_false (by omega)];rfl
theorem eROf:Entry Tryz.prog 124 (tOf sg0):=by
 refine entry_of (E:= ⟨addC 159 (tRMag sg0) noC,Kall,noL⟩) (u:=10) (d:=10) ((meets_none _).add eRMag) loops_none mixed (by kernel_rfl) (fun args r h=> ?_)
 unfold tOf at h
 split at h
 ·rename_i z
  simp only [Option.some.injEq,Prod.mk.injEq] at h
  obtain ⟨h1,rfl⟩:=h
  unfold inI at h1
  simp only [Bool.and_eq_true,decide_eq_true_eq] at h1
  have hcall:=rof2_call sg0 z
  by_cases h0:0≤z
  ·rw [dT h0,dT h1.2] at hcall
   rw [hcall,int_nn h0,show z.toNat=z.natAbs by omega]
   rfl
  ·rw [dF h0] at hcall
   rw [int_neg (by omega)]
   by_cases h2:z= -9223372036854775808
   ·subst h2
    rw [dT (show (-9223372036854775808:Int)=IntKind.i64.wrap (0 - -9223372036854775808) by rw [IntKind.wrap_i64];decide)] at hcall
    rw [hcall,min_mag]
    rfl
   ·have hw:IntKind.i64.wrap (0 - z)= -z:=by rw [IntKind.wrap_i64];omega
    rw [hw,dF (show ¬ z= -z by omega),dT (show 0≤ -z by omega),dT (show -z≤9223372036854775807 by omega)] at hcall
    rw [hcall,show (-z).toNat=z.natAbs by omega]
    rfl
 ·cases h
theorem ms_neg (z:Int):sg0.ms (-z)=sg0.ms z:=by
 show magOf (-z).natAbs=magOf z.natAbs
 rw [Int.natAbs_neg]
theorem eRNeg:Entry Tryz.prog 127 (tNeg sg0):=by
 refine entry_of (E:= ⟨addC 130 (tCanon sg0) noC,Kall,noL⟩) (u:=10) (d:=10) ((meets_none _).add eCanon) loops_none mixed (by kernel_rfl) (fun args r h=> ?_)
 unfold tNeg at h
 split at h
 ·rename_i b s
  simp only [Option.some.injEq,Prod.mk.injEq] at h
  obtain ⟨h1,rfl⟩:=h
  have hcall:=rneg_call sg0 b s
  generalize sg0.val b s=z at*
  rw [msnil,ng_eq] at hcall
  rw [hcall]
  unfold Sg.int
  rw [ms_neg,ng_eq]
  by_cases h0:z < 0
  ·rw [dT h0,dF (show ¬ -z < 0 by omega)];rfl
  ·rw [dF h0]
   by_cases h2:z=0
   ·rw [dT h2,dF (show ¬ -z < 0 by omega)];rfl
   ·rw [dF h2,dT (show -z < 0 by omega)];rfl
 ·cases h
end
end Go.Proofs.YtamcpiicmfielaaGreat.L
namespace Go.Proofs.YtamcpiicmfielaaGreat.L
open Go Go.V Go.RowKit Go.Proofs.YtamcpiicmfielaaGreat.Sp Go.Proofs.YtamcpiicmfielaaGreat.F Go.Proofs.YtamcpiicmfielaaGreatW.PrintWords
open Go.Proofs (Tryz.prog)
noncomputable section
theorem less_val:∀ (l m:List UInt8),l.length=m.length→(Op.bytesLess l m=true↔vB l < vB m)
 | [], [],_=>by simp [Op.bytesLess]
 | [],_ :: _,h=>by simp at h
 | _ :: _, [],h=>by simp at h
 | a :: x,b :: y,h=>by
  have hl:x.length=y.length:=by simpa using h
  have ih:=less_val x y hl
  have hx:=vB_lt x
  have hy:=vB_lt y
  rw [vB_cons,vB_cons,hl]
  rw [hl] at hx
  unfold Op.bytesLess
  rw [Bool.or_eq_true,Bool.and_eq_true,decide_eq_true_eq,beq_iff_eq,ih]
  have hab:a < b↔a.toNat < b.toNat:=UInt8.lt_iff_toNat_lt
  have hab2:a=b↔a.toNat=b.toNat:= ⟨fun h=>h ▸ rfl,fun h=>UInt8.toNat_inj.1 h⟩
  rw [hab,hab2]
  generalize 256 ^ y.length=B at*
  generalize a.toNat=p at*
  generalize b.toNat=q at*
  constructor
  ·rintro (h1 | ⟨h1,h2⟩)
   ·have:=Nat.mul_le_mul_right B (show p+1≤q by omega)
    rw [Nat.add_mul] at this
    omega
   ·subst h1;omega
  ·intro h1
   rcases Nat.lt_trichotomy p q with h2 | h2 | h2
   ·exact Or.inl h2
   ·subst h2;exact Or.inr ⟨rfl,by omega⟩
   ·have:=Nat.mul_le_mul_right B (show q+1≤p by omega)
    rw [Nat.add_mul] at this
    omega
def tRCmpM (S:Sg) (args:List AV):Option (Bool×AV):=match args with | [.val (.string s), .val (.string t)]=>some (strEq s (S.mg (S.vs s))&&strEq t (S.mg (S.vs t)), .val (.int .i64 (S.cmp (S.vs s) (S.vs t)))) | _=>none
theorem lt_of_size {n m:Nat} (h:(magOf n).size < (magOf m).size):n < m:=by
 rw [size_magOf,size_magOf] at h
 rcases Nat.lt_or_ge n m with h1 | h1
 ·exact h1
 ·have:=bs_mono h1
  unfold bs at this
  omega
theorem eRCmpM:Entry Tryz.prog 133 (tRCmpM sg0):=by
 refine entry_of (E:=E000) (u:=10) (d:=10) (meets_none _) loops_none mixed (by kernel_rfl) (fun args r h=> ?_)
 unfold tRCmpM at h
 split at h
 ·rename_i s t
  simp only [Option.some.injEq,Prod.mk.injEq,Bool.and_eq_true] at h
  obtain ⟨⟨h1,h2⟩,rfl⟩:=h
  rw [strEq_iff] at h1 h2
  have h1:s=magOf (vS s):=of_decide_eq_true h1
  have h2:t=magOf (vS t):=of_decide_eq_true h2
  have hcall:=rcmpmag_call s t
  show _=some (AV.val (.int .i64 (cmpN (vS s) (vS t))))
  rw [hcall]
  generalize vS s=n at*
  generalize vS t=m at*
  subst h1 h2
  by_cases h3:((magOf n).size:Int)=((magOf m).size:Int)
  ·rw [dT h3]
   have hlen:(toB n).length=(toB m).length:=by rw [← size_magOf,← size_magOf];omega
   have hs:V.strLt (magOf n) (magOf m)=decide (n < m):=by
    rw [Bool.eq_iff_iff]
    show Op.bytesLess (magOf n).data.toList (magOf m).data.toList=true↔_
    rw [magOf_data,magOf_data,less_val _ _ hlen,vB_toB,vB_toB,decide_eq_true_eq]
   have he:strEq (magOf n) (magOf m)=decide (n=m):=by
    rw [strEq_iff]
    refine decide_eq_decide.2 ⟨fun h=> ?_,fun h=>h ▸ rfl⟩
    have:=congrArg vS h
    rw [vS_magOf,vS_magOf] at this
    exact this
   rw [hs,he]
   unfold cmpN
   by_cases h4:n < m
   ·rw [dT h4,if_pos h4];rfl
   ·rw [dF h4,if_neg h4]
    by_cases h5:n=m
    ·rw [dT h5,if_neg (by omega)];rfl
    ·rw [dF h5,if_pos (by omega)];rfl
  ·rw [dF h3]
   unfold cmpN
   by_cases h4:((magOf n).size:Int) < ((magOf m).size:Int)
   ·rw [dT h4,if_pos (lt_of_size (by omega))];rfl
   ·rw [dF h4]
    have h5:m < n:=lt_of_size (by omega)
    rw [if_neg (by omega),if_pos h5];rfl
 ·cases h
def CRC (S:Sg):FuncId→List AV→Option (Bool×AV):=addC 130 (tCanon S) (addC 133 (tRCmpM S) noC)
def CRA (S:Sg):FuncId→List AV→Option (Bool×AV):=addC 130 (tCanon S) (addC 133 (tRCmpM S) (addC 136 (tRAddM S) (addC 137 (tRSubM S) (addC 131 (tRValue S) (addC 124 (tOf S) noC)))))
theorem rcmp_call (S:Sg) (b c:Bool) (s t:ByteArray):callA Tryz.prog ⟨CRC S,Kall,noL⟩ 10 10 97 [.agg [.val (.bool b), .val (.string s)], .agg [.val (.bool c), .val (.string t)]]=
  (bif bif true then !S.ng (S.val b s)==S.ng (S.val c t) else S.ng (S.val b s)==S.ng (S.val c t) then (bif S.ng (S.val b s) then some (.val (.int .i64 (-1))) else some (.val (.int .i64 1))) else (bif S.ng (S.val b s) then (bif strEq (S.ms (S.val c t)) (S.mg (S.vs (S.ms (S.val c t))))&&strEq (S.ms (S.val b s)) (S.mg (S.vs (S.ms (S.val b s)))) then some (.val (.int .i64 (S.cmp (S.vs (S.ms (S.val c t))) (S.vs (S.ms (S.val b s)))))) else none) else (bif strEq (S.ms (S.val b s)) (S.mg (S.vs (S.ms (S.val b s))))&&strEq (S.ms (S.val c t)) (S.mg (S.vs (S.ms (S.val c t)))) then some (.val (.int .i64 (S.cmp (S.vs (S.ms (S.val b s))) (S.vs (S.ms (S.val c t)))))) else none))):=by kernel_rfl
theorem raddI_call (S:Sg) (b c:Bool) (s t:ByteArray):letI q_1:Option AV:=(bif bif false then !S.ng (S.val b s)==S.ng (S.val c t) else S.ng (S.val b s)==S.ng (S.val c t) then (bif S.ok (S.ms (S.val b s))&&S.ok (S.ms (S.val c t)) then some (.agg [(.val (.bool (S.ng (S.val b s)))),(.val (.string (S.mg (S.vs (S.ms (S.val b s))+S.vs (S.ms (S.val c t))))))]) else none) else (bif strEq (S.ms (S.val b s)) (S.mg (S.vs (S.ms (S.val b s))))&&strEq (S.ms (S.val c t)) (S.mg (S.vs (S.ms (S.val c t)))) then (bif decide (S.cmp (S.vs (S.ms (S.val b s))) (S.vs (S.ms (S.val c t)))=(0:Int)) then some (.agg [(.val (.bool false)),(.val (.string (ByteArray.mk #[])))]) else (bif decide ((0:Int) < S.cmp (S.vs (S.ms (S.val b s))) (S.vs (S.ms (S.val c t)))) then (bif S.ok (S.ms (S.val b s))&&S.ok (S.ms (S.val c t))&&decide (S.vs (S.ms (S.val c t))≤S.vs (S.ms (S.val b s))) then some (.agg [(.val (.bool (S.ng (S.val b s)))),(.val (.string (S.mg (S.vs (S.ms (S.val b s)) - S.vs (S.ms (S.val c t))))))]) else none) else (bif S.ok (S.ms (S.val c t))&&S.ok (S.ms (S.val b s))&&decide (S.vs (S.ms (S.val b s))≤S.vs (S.ms (S.val c t))) then some (.agg [(.val (.bool (S.ng (S.val c t)))),(.val (.string (S.mg (S.vs (S.ms (S.val c t)) - S.vs (S.ms (S.val b s))))))]) else none))) else none));letI q_2:=(S.val (S.ng (S.val b s)) (S.ms (S.val b s))+S.val (S.ng (S.val c t)) (S.ms (S.val c t)));
  (callA Tryz.prog ⟨CRA S,Kall,noL⟩ 10 10 102 [.agg [.val (.bool b), .val (.string s)], .agg [.val (.bool c), .val (.string t)]]=(bif decide ((↑(S.ms (S.val b s)).size:Int) < (8:Int)) then (bif decide ((↑(S.ms (S.val c t)).size:Int) < (8:Int)) then (bif decide ((S.ms (S.val b s)).size≤(8:Nat))&&decide (S.vs (S.ms (S.val b s)) < (9223372036854775808:Nat)) then (bif decide ((S.ms (S.val c t)).size≤(8:Nat))&&decide (S.vs (S.ms (S.val c t)) < (9223372036854775808:Nat)) then (bif inR IntKind.i64 q_2 then (bif inI q_2 then some (.agg [(.val (.bool (S.ng q_2))),(.val (.string (S.ms q_2)))]) else none) else none) else none) else none) else q_1) else q_1)):=by kernel_rfl
theorem rsubI_call (S:Sg) (b c:Bool) (s t:ByteArray):callA Tryz.prog ⟨addC 102 (tAdd S) (addC 127 (tNeg S) noC),Kall,noL⟩ 10 10 163 [.agg [.val (.bool b), .val (.string s)], .agg [.val (.bool c), .val (.string t)]]=
  (bif S.ok t then (bif S.ok s&&S.ok (S.ms (-S.val c t)) then some (.agg [(.val (.bool (S.ng (S.val b s+S.val (S.ng (-S.val c t)) (S.ms (-S.val c t)))))),(.val (.string (S.ms (S.val b s+S.val (S.ng (-S.val c t)) (S.ms (-S.val c t))))))]) else none) else none):=by kernel_rfl
theorem canM (z:Int):strEq (sg0.ms z) (sg0.mg z.natAbs)=true:=strEq_self _
theorem ng_beq {x y:Int} (h:x < 0↔y < 0):(sg0.ng x==sg0.ng y)=true:=by
 rw [ng_eq,ng_eq,decide_eq_decide.2 h,beq_self_eq_true]
theorem ng_bne {x y:Int} (h:¬ (x < 0↔y < 0)):(sg0.ng x==sg0.ng y)=false:=by
 rw [ng_eq,ng_eq]
 by_cases hp:x < 0 <;> by_cases hq:y < 0
 ·exact absurd ⟨fun _=>hq,fun _=>hp⟩ h
 ·rw [dT hp,dF hq];rfl
 ·rw [dF hp,dT hq];rfl
 ·exact absurd ⟨fun k=>absurd k hp,fun k=>absurd k hq⟩ h
theorem int_eq {z:Int} {b:Bool} {n:Nat} (hb:b=decide (z < 0)) (hn:n=z.natAbs):AV.agg [.val (.bool b), .val (.string (sg0.mg n))]=sg0.int z:=by
 unfold Sg.int
 rw [ng_eq,hb,hn];rfl
theorem ng_dec {x z:Int} (h:x < 0↔z < 0):sg0.ng x=decide (z < 0):=by rw [ng_eq];exact decide_eq_decide.2 h
theorem cmpN_eq (a b:Nat):sg0.cmp a b=0↔a=b:=by
 show cmpN a b=0↔_
 unfold cmpN
 split <;> (try split) <;> omega
theorem cmpN_gt (a b:Nat):0 < sg0.cmp a b↔b < a:=by
 show 0 < cmpN a b↔_
 unfold cmpN
 split <;> (try split) <;> omega
theorem eRCompare:Entry Tryz.prog 97 (tCompare sg0):=by
 refine entry_of (E:= ⟨CRC sg0,Kall,noL⟩) (u:=10) (d:=10) (((meets_none _).add eRCmpM).add eCanon) loops_none mixed (by kernel_rfl) (fun args r h=> ?_)
 unfold tCompare at h
 split at h
 ·rename_i b s c t
  simp only [Option.some.injEq,Prod.mk.injEq] at h
  obtain ⟨h1,rfl⟩:=h
  have hcall:=rcmp_call sg0 b c s t
  generalize sg0.val b s=x at*
  generalize sg0.val c t=y at*
  simp only [vs_ms,canM] at hcall
  rw [hcall]
  by_cases hxy:x < 0↔y < 0
  ·rw [ng_beq hxy]
   by_cases h0:x < 0
   ·rw [ng_eq x,dT h0]
    refine congrArg (fun z=>some (AV.val (.int .i64 z))) ?_
    show cmpN y.natAbs x.natAbs=cmpZ x y
    unfold cmpN cmpZ
    split <;> split <;> (try split) <;> (try split) <;> omega
   ·rw [ng_eq x,dF h0]
    refine congrArg (fun z=>some (AV.val (.int .i64 z))) ?_
    show cmpN x.natAbs y.natAbs=cmpZ x y
    unfold cmpN cmpZ
    split <;> split <;> (try split) <;> (try split) <;> omega
  ·rw [ng_bne hxy]
   by_cases h0:x < 0
   ·rw [ng_eq x,dT h0]
    refine congrArg (fun z=>some (AV.val (.int .i64 z))) ?_
    show -1=cmpZ x y
    unfold cmpZ
    split <;> (try split) <;> omega
   ·rw [ng_eq x,dF h0]
    refine congrArg (fun z=>some (AV.val (.int .i64 z))) ?_
    show 1=cmpZ x y
    unfold cmpZ
    split <;> (try split) <;> omega
 ·cases h
theorem small7 {n:Nat} (h:bs n < 8):n < 72057594037927936:=
 Nat.lt_of_lt_of_le (bs_lt n) (show 256 ^ bs n≤256 ^ 7 from Nat.pow_le_pow_right (by decide) (by omega))
theorem CRA_ok:Meets Tryz.prog (CRA sg0):=((((((meets_none _).add eROf).add eRValue).add eRSubM).add eRAddM).add eRCmpM).add eCanon
theorem eRAdd:Entry Tryz.prog 102 (tAdd sg0):=by
 refine entry_of (E:= ⟨CRA sg0,Kall,noL⟩) (u:=10) (d:=10) CRA_ok loops_none mixed (by kernel_rfl) (fun args r h=> ?_)
 unfold tAdd at h
 split at h
 ·rename_i b s c t
  simp only [Option.some.injEq,Prod.mk.injEq,Bool.and_eq_true] at h
  obtain ⟨⟨h1,h2⟩,rfl⟩:=h
  have hcall:=raddI_call sg0 b c s t
  have bx:=Nat.le_trans (bs_val b s) (ok_size h1)
  have by_:=Nat.le_trans (bs_val c t) (ok_size h2)
  generalize sg0.val b s=x at*
  generalize sg0.val c t=y at*
  simp only [vs_ms,canM,size_ms,val_ms] at hcall
  rw [ok_ms bx,ok_ms by_] at hcall
  rw [hcall]
  clear hcall
  by_cases hsm:(bs x.natAbs:Int) < 8∧(bs y.natAbs:Int) < 8
  ·obtain ⟨g1,g2⟩:=hsm
   have k1:=small7 (show bs x.natAbs < 8 by omega)
   have k2:=small7 (show bs y.natAbs < 8 by omega)
   rw [dT g1,dT g2,dT (show bs x.natAbs≤8 by omega),dT (show bs y.natAbs≤8 by omega),dT (show x.natAbs < 9223372036854775808 by omega),dT (show y.natAbs < 9223372036854775808 by omega),i64T (show -9223372036854775808≤x+y∧x+y≤9223372036854775807 by omega)]
   unfold inI
   rw [dT (show -9223372036854775808≤x+y by omega),dT (show x+y≤9223372036854775807 by omega)]
   rfl
  ·have h':¬ ((bs x.natAbs:Int) < 8)∨((bs x.natAbs:Int) < 8∧¬ (bs y.natAbs:Int) < 8):=by omega
   rcases h' with h8 | ⟨h8,h9⟩
   ·rw [dF h8]
    by_cases hxy:x < 0↔y < 0
    ·rw [ng_beq hxy]
     exact congrArg some (int_eq (ng_dec (by omega)) (by omega))
    ·rw [ng_bne hxy]
     by_cases hc:x.natAbs=y.natAbs
     ·rw [dT ((cmpN_eq _ _).2 hc),show x+y=0 by omega]
      unfold Sg.int
      rw [ms_zero]
      rfl
     ·rw [dF (fun h=>hc ((cmpN_eq _ _).1 h))]
      by_cases hg:y.natAbs < x.natAbs
      ·rw [dT ((cmpN_gt _ _).2 hg),dT (show y.natAbs≤x.natAbs by omega)]
       exact congrArg some (int_eq (ng_dec (by omega)) (by omega))
      ·rw [dF (fun h=>hg ((cmpN_gt _ _).1 h)),dT (show x.natAbs≤y.natAbs by omega)]
       exact congrArg some (int_eq (ng_dec (by omega)) (by omega))
   ·rw [dT h8,dF h9]
    by_cases hxy:x < 0↔y < 0
    ·rw [ng_beq hxy]
     exact congrArg some (int_eq (ng_dec (by omega)) (by omega))
    ·rw [ng_bne hxy]
     by_cases hc:x.natAbs=y.natAbs
     ·rw [dT ((cmpN_eq _ _).2 hc),show x+y=0 by omega]
      unfold Sg.int
      rw [ms_zero]
      rfl
     ·rw [dF (fun h=>hc ((cmpN_eq _ _).1 h))]
      by_cases hg:y.natAbs < x.natAbs
      ·rw [dT ((cmpN_gt _ _).2 hg),dT (show y.natAbs≤x.natAbs by omega)]
       exact congrArg some (int_eq (ng_dec (by omega)) (by omega))
      ·rw [dF (fun h=>hg ((cmpN_gt _ _).1 h)),dT (show x.natAbs≤y.natAbs by omega)]
       exact congrArg some (int_eq (ng_dec (by omega)) (by omega))
 ·cases h
theorem eRSub:Entry Tryz.prog 163 (tSub sg0):=by
 refine entry_of (E:= ⟨addC 102 (tAdd sg0) (addC 127 (tNeg sg0) noC),Kall,noL⟩) (u:=10) (d:=10) (((meets_none _).add eRNeg).add eRAdd) loops_none mixed (by kernel_rfl) (fun args r h=> ?_)
 unfold tSub at h
 split at h
 ·rename_i b s c t
  simp only [Option.some.injEq,Prod.mk.injEq,Bool.and_eq_true] at h
  obtain ⟨⟨h1,h2⟩,rfl⟩:=h
  have hcall:=rsubI_call sg0 b c s t
  have by_:=Nat.le_trans (bs_val c t) (ok_size h2)
  simp only [val_ms] at hcall
  rw [h1,h2,ok_ms (z:= -sg0.val c t) (by rw [Int.natAbs_neg];exact by_)] at hcall
  rw [hcall,Int.sub_eq_add_neg]
  rfl
 ·cases h
end
end Go.Proofs.YtamcpiicmfielaaGreat.L
namespace Go.Proofs.YtamcpiicmfielaaGreat.L
open Go Go.V Go.RowKit Go.Proofs.YtamcpiicmfielaaGreat.Sp Go.Proofs.YtamcpiicmfielaaGreat.F Go.Proofs.YtamcpiicmfielaaGreatW.PrintWords
open Go.Proofs (Tryz.prog)
noncomputable section
abbrev p_rmi:List Bool:= [false,true,false,true,false,false,true,false,false,true,false,true,true]
def sh_rmi (s:ByteArray) (t:ByteArray) (zs:List Int) (i:Int) (c:Int) (j:Int):List AV:=slots 87 [(0, .val (.string s)),(1, .val (.string t)),(5, .sl false 3 0 0 zs.length),(6, .val (.int .i64 i)),(7, .val (.int .i64 c)),(8, .val (.int .i64 j))]
def hp_rmi (s:ByteArray) (t:ByteArray) (zs:List Int) (i:Int) (c:Int) (j:Int):Hp:= [.row (.ints .i64 zs) 3 .live]
theorem body_rmi:subC Tryz.prog 132 p_rmi=some (.loop (lb 132 p_rmi)):=by kernel_rfl
theorem code_rmi:subC Tryz.prog 132 (false :: p_rmi)=some (lb 132 p_rmi):=by kernel_rfl
theorem round_rmi (s:ByteArray) (t:ByteArray) (zs:List Int) (i:Int) (c:Int) (j:Int):letI q_1:=(zs.getD ((0:Nat)+(i+j+(1:Int)).toNat*(1:Nat)) (0:Int)+byteAt s i.toNat*byteAt t j.toNat);
  (roundA Tryz.prog EL0 132 [0,1,5,6,7,8] (lb 132 p_rmi) (false :: p_rmi) (sh_rmi s t zs i c j) (hp_rmi s t zs i c j)=(bif decide ((0:Int)≤j) then (bif inR IntKind.i64 (i+j) then (bif inR IntKind.i64 (i+j+(1:Int)) then (bif decide ((0:Int)≤i+j+(1:Int))&&decide (i+j+(1:Int) < (↑zs.length:Int)) then (bif decide ((0:Nat)+(i+j+(1:Int)).toNat*(1:Nat) < zs.length) then (bif decide ((0:Int)≤i)&&decide (i < (↑s.size:Int)) then (bif inR IntKind.i64 (byteAt s i.toNat) then (bif decide ((0:Int)≤j)&&decide (j < (↑t.size:Int)) then (bif inR IntKind.i64 (byteAt t j.toNat) then (bif inR IntKind.i64 (byteAt s i.toNat*byteAt t j.toNat) then (bif inR IntKind.i64 q_1 then (bif inR IntKind.i64 (c+q_1) then (bif inR IntKind.i64 (i+j) then (bif inR IntKind.i64 (i+j+(1:Int)) then (bif decide ((0:Int)≤i+j+(1:Int))&&decide (i+j+(1:Int) < (↑zs.length:Int)) then (bif decide ((0:Nat)+(i+j+(1:Int)).toNat*(1:Nat) < zs.length) then (bif inR IntKind.i64 (j - (1:Int)) then some (.normal,slots 87 [(0,(.val (.string s))),(1,(.val (.string t))),(5,(.sl false 3 0 0 zs.length)),(6,(.val (.int .i64 i))),(7,(.val (.int .i64 ((c+q_1).fdiv (256:Int))))),(8,(.val (.int .i64 (j - (1:Int)))))], [(.row (.ints .i64 (zs.set ((0:Nat)+(i+j+(1:Int)).toNat*(1:Nat)) (bitI BinOp.and IntKind.i64 (c+q_1) (255:Int)))) 3 .live)]) else none) else none) else none) else none) else none) else none) else none) else none) else none) else none) else none) else none) else none) else none) else none) else none) else some ((.exit 2),slots 87 [(0,(.val (.string s))),(1,(.val (.string t))),(5,(.sl false 3 0 0 zs.length)),(6,(.val (.int .i64 i))),(7,(.val (.int .i64 c))),(8,(.val (.int .i64 j)))], [(.row (.ints .i64 zs) 3 .live)]))):=by kernel_rfl
theorem step_rmi {s:ByteArray} {t:ByteArray} {zs:List Int} {i:Int} {c:Int} {j:Int} {e:Ex} {T:List AV} {H:Hp} (h:roundA Tryz.prog EL0 132 [0,1,5,6,7,8] (lb 132 p_rmi) (false :: p_rmi) (sh_rmi s t zs i c j) (hp_rmi s t zs i c j)=some (e,T,H)):V.Ends Tryz.prog false 0 0 (lb 132 p_rmi) (sh_rmi s t zs i c j) (hp_rmi s t zs i c j) e T H:=
 round_ends (meets_none _) loops_none mixed code_rmi h
def okY (zs:List Int):Prop:=∀ z ∈ zs,0≤z∧z < 256
theorem okY_set {zs:List Int} (h:okY zs) (p x:Nat) (hx:x < 256):okY (zs.set p (x:Int)):=by
 intro z hz
 rcases List.mem_or_eq_of_mem_set hz with h1 | h1
 ·exact h z h1
 ·subst h1;omega
theorem getD_byte {l:List Int} (h:okY l) (i:Nat) (hi:i < l.length):∃ a:Nat,a < 256∧l[i]? =some (a:Int)∧l.getD i 0=(a:Int):=by
 have h1:=h l[i] (List.getElem_mem hi)
 obtain ⟨a,ha⟩:=Int.eq_ofNat_of_zero_le h1.1
 refine ⟨a,by omega, ?_, ?_⟩
 ·rw [List.getElem?_eq_getElem hi,ha]
 ·rw [List.getD_eq_getElem?_getD,List.getElem?_eq_getElem hi,ha];rfl
theorem vY_consI (a:Int) (l:List Int):vY (a :: l)=(UInt8.ofNat a.toNat).toNat*256 ^ l.length+vY l:=by
 unfold vY
 rw [List.map_cons,vB_cons,List.length_map]
theorem u8nat {a:Nat} (h:a < 256):(UInt8.ofNat ((a:Int)).toNat).toNat=a:=by
 rw [Int.toNat_natCast,UInt8.toNat_ofNat'];omega
theorem vY_put (z x:Nat) (hz:z < 256) (hx:x < 256):∀ (l:List Int) (q:Nat),l[q]? =some (z:Int)→vY (l.set q (x:Int))+z*256 ^ (l.length - q - 1)=vY l+x*256 ^ (l.length - q - 1)
 | [],q,h=>by simp at h
 | a :: l,0,h=>by
  have ha:a=(z:Int):=by simpa using h
  subst ha
  rw [List.set_cons_zero,vY_consI,vY_consI,u8nat hz,u8nat hx]
  simp only [List.length_cons,Nat.sub_zero,Nat.add_sub_cancel]
  omega
 | a :: l,q+1,h=>by
  have ih:=vY_put z x hz hx l q (by simpa using h)
  rw [List.set_cons_succ,vY_consI,vY_consI,List.length_set]
  have e:(a :: l).length - (q+1) - 1=l.length - q - 1:=by simp only [List.length_cons];omega
  rw [e]
  omega
theorem vY_putD (z x:Nat) (hz:z < 256) (hx:x < 256) (l:List Int) (p k:Nat) (hk:k≤p) (h:l[p]? =some (z:Int)):vY ((l.set p (x:Int)).drop k)+z*256 ^ (l.length - p - 1)=vY (l.drop k)+x*256 ^ (l.length - p - 1):=by
 have e:(l.set p (x:Int)).drop k=(l.drop k).set (p - k) (x:Int):=by
  rw [List.drop_set,if_neg (by omega)]
 have:=vY_put z x hz hx (l.drop k) (p - k) (by rw [List.getElem?_drop,show k+(p - k)=p by omega];exact h)
 rw [List.length_drop,show l.length - k - (p - k) - 1=l.length - p - 1 by omega] at this
 rw [e];exact this
theorem and255 (v:Nat) (h:v < 65536):bitI .and .i64 (v:Int) 255=((v % 256:Nat):Int):=by
 have e:Go.bits .and .i64 (v:Int) (2 ^ 8 - 1)=(v:Int) % 2 ^ 8:=bits_mask .i64 63 (by decide) (fun n h1 h2=>by rw [IntKind.wrap_i64];omega) 8 (by decide) (v:Int) (by omega) (by omega)
 have e2:bitI .and .i64 (v:Int) 255=(v:Int) % 256:=e
 rw [e2];omega
theorem rmi_step {A A' P v z c x y Y:Nat} (h1:A'+z*P=A+v % 256*P) (hv:v=c+(z+x*y)):A'+v / 256*(256*P)+x*Y*(256*P)=A+c*P+x*(Y*256+y)*P:=by
 have e:v % 256*P+v / 256*(256*P)=v*P:=by
  rw [← Nat.mul_assoc,← Nat.add_mul,Nat.mul_comm (v / 256),Nat.mod_add_div]
 have e2:v*P=c*P+z*P+x*y*P:=by rw [hv,Nat.add_mul,Nat.add_mul,Nat.add_assoc]
 have e3:x*(Y*256+y)*P=x*Y*(256*P)+x*y*P:=by grind
 omega
theorem rmi_go (s t:ByteArray) (hs:s.size≤8796093022208) (ht:t.size≤8796093022208) (i:Nat) (hi:i < s.size) (x:Nat) (hx:x < 256) (hxe:byteAt s i=(x:Int)) (d:Nat):∀ (c:Nat) (zs:List Int),d≤t.size→zs.length=s.size+t.size→okY zs→c < 256→
  ∃ r:List Int×Int×Int,LoopTo Tryz.prog (lb 132 p_rmi) (sh_rmi s t zs i c ((d:Int) - 1)) (hp_rmi s t zs i c ((d:Int) - 1)) (.exit 2) (sh_rmi s t r.1 i r.2.1 r.2.2) (hp_rmi s t r.1 i r.2.1 r.2.2)∧r.1.length=s.size+t.size∧okY r.1∧(∀ k:Nat,k≤i→r.1[k]? =zs[k]?)∧
   ∃ c2:Nat,r.2.1=(c2:Int)∧c2 < 256∧vY (r.1.drop (i+1))+c2*256 ^ (s.size+t.size - (i+1))=vY (zs.drop (i+1))+c*256 ^ (s.size+t.size - (i+d+1))+x*vB (t.data.toList.take d)*256 ^ (s.size+t.size - (i+d+1)):=by
 induction d with
 | zero=>
  intro c zs hd hl hok hc
  refine ⟨(zs,(c:Int),((0:Nat):Int) - 1), .last (step_rmi ?_) (by intro h;cases h),hl,hok,fun _ _=>rfl,c,rfl,hc, ?_⟩
  ·rw [round_rmi,dF (show ¬ (0:Int)≤((0:Nat):Int) - 1 by decide)];rfl
  ·rw [List.take_zero]
   show _=_+_+x*0*_
   rw [Nat.mul_zero,Nat.zero_mul];rfl
 | succ d ih=>
  intro c zs hd hl hok hc
  obtain ⟨z,hz,hz1,hz2⟩:=getD_byte hok (i+d+1) (by omega)
  have hb:=byteAt_lt t d
  obtain ⟨y,hy⟩:∃ y:Nat,byteAt t d=y:= ⟨(byteAt t d).toNat,by omega⟩
  rw [hy] at hb
  have hxy:x*y≤255*255:=Nat.mul_le_mul (by omega) (by omega)
  have hvl:c+(z+x*y) < 65536:=by omega
  obtain ⟨r,h1,h2,h3,h4,c2,h5,h6,h7⟩:=ih ((c+(z+x*y)) / 256) (zs.set (i+d+1) (((c+(z+x*y)) % 256:Nat):Int)) (by omega) (by rw [List.length_set];exact hl) (okY_set hok _ _ (Nat.mod_lt _ (by decide))) (by omega)
  refine ⟨r, .more (step_rmi ?_) h1,h2,h3, ?_,c2,h5,h6, ?_⟩
  ·have hr:=round_rmi s t zs i c (d:Int)
   have ep:((i:Int)+(d:Int)+1)=((i+d+1:Nat):Int):=by omega
   rw [ep,Int.toNat_natCast,Int.toNat_natCast,Int.toNat_natCast,Nat.zero_add,Nat.mul_one,hz2,hxe,hy] at hr
   have ev:((c:Int)+((z:Int)+(x:Int)*(y:Int)))=((c+(z+x*y):Nat):Int):=by rw [Int.natCast_add,Int.natCast_add,Int.natCast_mul]
   have exy:(x:Int)*(y:Int)=((x*y:Nat):Int):=(Int.natCast_mul x y).symm
   rw [ev,and255 _ hvl,fdiv256,exy,← Int.natCast_add z (x*y),i64L (x*y) (by omega),i64L (z+x*y) (by omega),i64L (c+(z+x*y)) (by omega),i64L x (by omega),i64L y (by omega),← Int.natCast_add i d,i64L (i+d) (by omega),i64L (i+d+1) (by omega),dT (show (0:Int)≤(d:Int) by omega),dT (show (0:Int)≤((i+d+1:Nat):Int) by omega),dT (show ((i+d+1:Nat):Int) < (zs.length:Int) by omega),dT (show i+d+1 < zs.length by omega),dT (show (0:Int)≤(i:Int) by omega),dT (show (i:Int) < (s.size:Int) by omega),dT (show (d:Int) < (t.size:Int) by omega),i64T (show -9223372036854775808≤(d:Int) - 1∧(d:Int) - 1≤9223372036854775807 by omega)] at hr
   rw [show ((d+1:Nat):Int) - 1=(d:Int) by omega,hr]
   unfold sh_rmi hp_rmi
   rw [List.length_set]
   rfl
  ·intro k hk
   rw [h4 k hk,List.getElem?_set_ne (by omega)]
  ·have hput:=vY_putD z ((c+(z+x*y)) % 256) hz (Nat.mod_lt _ (by decide)) zs (i+d+1) (i+1) (by omega) hz1
   have hsucc:=vB_take_succ t d (by omega)
   rw [hy] at hsucc
   have hsucc':vB (t.data.toList.take (d+1))=vB (t.data.toList.take d)*256+y:=by omega
   have hpow:256 ^ (s.size+t.size - (i+d+1))=256*256 ^ (s.size+t.size - (i+(d+1)+1)):=by
    rw [show s.size+t.size - (i+d+1)=(s.size+t.size - (i+(d+1)+1))+1 by omega,Nat.pow_succ,Nat.mul_comm]
   rw [h7,hpow,hsucc']
   rw [hl,show s.size+t.size - (i+d+1) - 1=s.size+t.size - (i+(d+1)+1) by omega] at hput
   exact rmi_step hput rfl
def pre_rmi (s t:ByteArray) (zs:List Int) (i c j:Int):Prop:=s.size≤8796093022208∧t.size≤8796093022208∧(∃ k:Nat,i=(k:Int)∧k < s.size)∧zs.length=s.size+t.size∧okY zs∧c=0∧j=(t.size:Int) - 1
def post_rmi (s t:ByteArray) (zs:List Int) (i c j:Int) (r:List Int×Int×Int):Prop:=r.1.length=s.size+t.size∧okY r.1∧(∀ k:Nat,k≤i.toNat→r.1[k]? =zs[k]?)∧
 ∃ c2:Nat,r.2.1=(c2:Int)∧c2 < 256∧vY (r.1.drop (i.toNat+1))+c2*256 ^ (s.size+t.size - (i.toNat+1))=vY (zs.drop (i.toNat+1))+(byteAt s i.toNat).toNat*vS t*256 ^ (s.size+t.size - (i.toNat+t.size+1))
theorem loop_rmi (s t:ByteArray) (zs:List Int) (i c j:Int) (h:pre_rmi s t zs i c j):∃ r:List Int×Int×Int,LoopTo Tryz.prog (lb 132 p_rmi) (sh_rmi s t zs i c j) (hp_rmi s t zs i c j) (.exit 2) (sh_rmi s t r.1 i r.2.1 r.2.2) (hp_rmi s t r.1 i r.2.1 r.2.2)∧post_rmi s t zs i c j r:=by
 obtain ⟨h1,h2, ⟨k,rfl,h3⟩,h4,h5,rfl,rfl⟩:=h
 have hb:=byteAt_lt s k
 obtain ⟨x,hx⟩:∃ x:Nat,byteAt s k=x:= ⟨(byteAt s k).toNat,by omega⟩
 obtain ⟨r,k1,k2,k3,k4,c2,k5,k6,k7⟩:=rmi_go s t h1 h2 k h3 x (by omega) hx t.size 0 zs (Nat.le_refl _) h4 h5 (by omega)
 have e:t.data.toList.take t.size=t.data.toList:=List.take_of_length_le (by rw [Array.length_toList];exact Nat.le_refl _)
 rw [e,Nat.zero_mul,Nat.add_zero] at k7
 unfold post_rmi
 rw [Int.toNat_natCast,hx,Int.toNat_natCast]
 exact ⟨r,k1,k2,k3,k4,c2,k5,k6,k7⟩
def told_rmi (κ:ByteArray→ByteArray→List Int→Int→Int→Int→Bool) (φ:ByteArray→ByteArray→List Int→Int→Int→Int→List Int×Int×Int) (T:List AV) (H:Hp):Option (Bool×Ex×List AV×Hp):=
 match lget T 0,lget T 1,lget T 5,lget T 6,lget T 7,lget T 8,H with
 | .val (.string s), .val (.string t), .sl false 3 0 0 m_zs, .val (.int .i64 i), .val (.int .i64 c), .val (.int .i64 j), [.row (.ints .i64 zs) 3 .live]=>bif T.length==87 then some (decide (m_zs=zs.length)&&κ s t zs i c j, .exit 2,sh_rmi s t ((φ s t zs i c j).1) i ((φ s t zs i c j).2.1) ((φ s t zs i c j).2.2),hp_rmi s t ((φ s t zs i c j).1) i ((φ s t zs i c j).2.1) ((φ s t zs i c j).2.2)) else none
 | _,_,_,_,_,_,_=>none
abbrev KT_rmi:Type:=ByteArray→ByteArray→List Int→Int→Int→Int→Bool
abbrev FT_rmi:Type:=ByteArray→ByteArray→List Int→Int→Int→Int→List Int×Int×Int
def LL_rmi (κ:KT_rmi) (φ:FT_rmi) (L:LTab):LTab:=addLn 0 132 p_rmi [0,1,5,6,7,8] (told_rmi κ φ) L
def phi_rmi (s:ByteArray) (t:ByteArray) (zs:List Int) (i:Int) (c:Int) (j:Int):List Int×Int×Int:=Classical.epsilon fun ρ=>LoopTo Tryz.prog (lb 132 p_rmi) (sh_rmi s t zs i c j) (hp_rmi s t zs i c j) (.exit 2) (sh_rmi s t (ρ.1) i (ρ.2.1) (ρ.2.2)) (hp_rmi s t (ρ.1) i (ρ.2.1) (ρ.2.2))∧post_rmi s t zs i c j ρ
theorem phi_rmi_spec (s:ByteArray) (t:ByteArray) (zs:List Int) (i:Int) (c:Int) (j:Int) (h:pre_rmi s t zs i c j):LoopTo Tryz.prog (lb 132 p_rmi) (sh_rmi s t zs i c j) (hp_rmi s t zs i c j) (.exit 2) (sh_rmi s t ((phi_rmi s t zs i c j).1) i ((phi_rmi s t zs i c j).2.1) ((phi_rmi s t zs i c j).2.2)) (hp_rmi s t ((phi_rmi s t zs i c j).1) i ((phi_rmi s t zs i c j).2.1) ((phi_rmi s t zs i c j).2.2))∧post_rmi s t zs i c j (phi_rmi s t zs i c j):=Classical.epsilon_spec (loop_rmi s t zs i c j h)
def cond_rmi (s:ByteArray) (t:ByteArray) (zs:List Int) (i:Int) (c:Int) (j:Int):Bool:= @decide (pre_rmi s t zs i c j) (Classical.propDecidable _)
theorem cond_rmi_eq (s:ByteArray) (t:ByteArray) (zs:List Int) (i:Int) (c:Int) (j:Int) (h:pre_rmi s t zs i c j):cond_rmi s t zs i c j=true:= @decide_eq_true _ (Classical.propDecidable _) h
theorem told_rmi_ok (T:List AV) (H:Hp) (e:Ex) (T1:List AV) (H1:Hp) (h:told_rmi cond_rmi phi_rmi T H=some (true,e,T1,H1)):V.Ends Tryz.prog false 0 0 (.loop (lb 132 p_rmi)) T H e T1 H1:=by
 unfold told_rmi at h
 split at h
 ·rename_i s t m_zs i c j zs h0 h1 h5 h6 h7 h8
  rw [Bool.cond_eq_ite] at h
  split at h
  ·rename_i hlen
   rw [beq_iff_eq] at hlen
   simp only [Option.some.injEq,Prod.mk.injEq,Bool.and_eq_true,decide_eq_true_eq] at h
   obtain ⟨⟨k1,k2⟩,rfl,rfl,rfl⟩:=h
   have kc:= @of_decide_eq_true _ (Classical.propDecidable _) k2
   refine Ends.pre (phi_rmi_spec s t zs i c j kc).1.ends (fun α B w D ys hr=>slots_rel hlen (fun p hp y hy=> ?_) hr)
   simp only [List.mem_cons,List.not_mem_nil,or_false] at hp
   rcases hp with rfl | rfl | rfl | rfl | rfl | rfl
   ·rw [h0] at hy;exact hy
   ·rw [h1] at hy;exact hy
   ·rw [h5] at hy;rw [← k1];exact hy
   ·rw [h6] at hy;exact hy
   ·rw [h7] at hy;exact hy
   ·rw [h8] at hy;exact hy
  ·cases h
 ·cases h
theorem LL_rmi_ok {L:LTab} (h:LOk Tryz.prog L):LOk Tryz.prog (LL_rmi cond_rmi phi_rmi L):=h.add2n body_rmi told_rmi_ok
def ERi (κ:KT_rmi) (φ:FT_rmi):Env:= ⟨noC,Kall,LL_rmi κ φ noL⟩
abbrev p_rmo:List Bool:= [false,true,false,true,true]
def sh_rmo (s:ByteArray) (t:ByteArray) (zs:List Int) (i:Int):List AV:=slots 87 [(0, .val (.string s)),(1, .val (.string t)),(5, .sl false 3 0 0 zs.length),(6, .val (.int .i64 i))]
def hp_rmo (s:ByteArray) (t:ByteArray) (zs:List Int) (i:Int):Hp:= [.row (.ints .i64 zs) 3 .live]
theorem body_rmo:subC Tryz.prog 132 p_rmo=some (.loop (lb 132 p_rmo)):=by kernel_rfl
theorem code_rmo:subC Tryz.prog 132 (false :: p_rmo)=some (lb 132 p_rmo):=by kernel_rfl
theorem round_rmo (κ:KT_rmi) (φ:FT_rmi) (s:ByteArray) (t:ByteArray) (zs:List Int) (i:Int):letI q_1:=(φ s t zs i (0:Int) ((↑t.size:Int) - (1:Int)));
  (roundA Tryz.prog (ERi κ φ) 132 [0,1,5,6] (lb 132 p_rmo) (false :: p_rmo) (sh_rmo s t zs i) (hp_rmo s t zs i)=(bif decide ((0:Int)≤i) then (bif inR IntKind.i64 ((↑t.size:Int) - (1:Int)) then (bif decide (zs.length=zs.length)&&κ s t zs i (0:Int) ((↑t.size:Int) - (1:Int)) then (bif decide ((0:Int)≤i)&&decide (i < (↑q_1.fst.length:Int)) then (bif decide ((0:Nat)+i.toNat*(1:Nat) < q_1.fst.length) then (bif inR IntKind.i64 (q_1.fst.getD ((0:Nat)+i.toNat*(1:Nat)) (0:Int)+q_1.snd.fst) then (bif decide ((0:Int)≤i)&&decide (i < (↑q_1.fst.length:Int)) then (bif decide ((0:Nat)+i.toNat*(1:Nat) < q_1.fst.length) then (bif inR IntKind.i64 (i - (1:Int)) then some (.normal,slots 87 [(0,(.val (.string s))),(1,(.val (.string t))),(5,(.sl false 3 0 0 (q_1.fst.length))),(6,(.val (.int .i64 (i - (1:Int)))))], [(.row (.ints .i64 (q_1.fst.set ((0:Nat)+i.toNat*(1:Nat)) (q_1.fst.getD ((0:Nat)+i.toNat*(1:Nat)) (0:Int)+q_1.snd.fst))) 3 .live)]) else none) else none) else none) else none) else none) else none) else none) else none) else some ((.exit 0),slots 87 [(0,(.val (.string s))),(1,(.val (.string t))),(5,(.sl false 3 0 0 zs.length)),(6,(.val (.int .i64 i)))], [(.row (.ints .i64 zs) 3 .live)]))):=by kernel_rfl
theorem step_rmo {s:ByteArray} {t:ByteArray} {zs:List Int} {i:Int} {e:Ex} {T:List AV} {H:Hp} (h:roundA Tryz.prog (ERi cond_rmi phi_rmi) 132 [0,1,5,6] (lb 132 p_rmo) (false :: p_rmo) (sh_rmo s t zs i) (hp_rmo s t zs i)=some (e,T,H)):V.Ends Tryz.prog false 0 0 (lb 132 p_rmo) (sh_rmo s t zs i) (hp_rmo s t zs i) e T H:=
 round_ends (meets_none _) (LL_rmi_ok LOk.none).ok mixed code_rmo h
theorem rmo_step {V A A' X P x T c Q:Nat} (h1:A'+c*Q=A+x*T*P):A'+c*Q+X*T*(256*P)=A+(X*256+x)*T*P:=by
 have e:(X*256+x)*T*P=X*T*(256*P)+x*T*P:=by grind
 omega
theorem rmo_go (s t:ByteArray) (hs:s.size≤8796093022208) (ht:t.size≤8796093022208) (d:Nat):∀ zs:List Int,d≤s.size→zs.length=s.size+t.size→okY zs→(∀ k:Nat,k < d→zs[k]? =some 0)→
  ∃ r:List Int×Int,LoopTo Tryz.prog (lb 132 p_rmo) (sh_rmo s t zs ((d:Int) - 1)) (hp_rmo s t zs ((d:Int) - 1)) (.exit 0) (sh_rmo s t r.1 r.2) (hp_rmo s t r.1 r.2)∧r.1.length=s.size+t.size∧okY r.1∧vY r.1=vY (zs.drop d)+vB (s.data.toList.take d)*vS t*256 ^ (s.size - d):=by
 induction d with
 | zero=>
  intro zs hd hl hok h0
  refine ⟨(zs,((0:Nat):Int) - 1), .last (step_rmo ?_) (by intro h;cases h),hl,hok, ?_⟩
  ·rw [round_rmo,dF (show ¬ (0:Int)≤((0:Nat):Int) - 1 by decide)];rfl
  ·rw [List.take_zero]
   show _=_+0*_*_
   rw [Nat.zero_mul,Nat.zero_mul];rfl
 | succ d ih=>
  intro zs hd hl hok h0
  have hp:pre_rmi s t zs (d:Int) 0 ((t.size:Int) - 1):= ⟨hs,ht, ⟨d,rfl,by omega⟩,hl,hok,rfl,rfl⟩
  obtain ⟨_,p1,p2,p3,c2,p4,p5,p6⟩:=phi_rmi_spec _ _ _ _ _ _ hp
  have hr:=round_rmo cond_rmi phi_rmi s t zs (d:Int)
  rw [cond_rmi_eq _ _ _ _ _ _ hp] at hr
  generalize phi_rmi s t zs (d:Int) 0 ((t.size:Int) - 1)=q at*
  obtain ⟨q1,q2⟩:=q
  rw [Int.toNat_natCast] at p3 p6
  have hz:q1[d]? =some ((0:Nat):Int):=by rw [p3 d (Nat.le_refl _),h0 d (by omega)];rfl
  have hzd:q1.getD d 0=0:=by rw [List.getD_eq_getElem?_getD,hz];rfl
  have p1:q1.length=s.size+t.size:=p1
  obtain ⟨r,h1,h2,h3,h4⟩:=ih (q1.set d (c2:Int)) (by omega) (by rw [List.length_set];exact p1) (okY_set p2 _ _ p5) (fun k hk=>by
   rw [List.getElem?_set_ne (by omega),p3 k (by omega),h0 k (by omega)])
  refine ⟨r, .more (step_rmo ?_) h1,h2,h3, ?_⟩
  ·have p4:q2.1=(c2:Int):=p4
   rw [p4,Int.toNat_natCast,Nat.zero_add,Nat.mul_one,hzd,Int.zero_add,dT (show (0:Int)≤(d:Int) by omega),i64T (show -9223372036854775808≤(t.size:Int) - 1∧(t.size:Int) - 1≤9223372036854775807 by omega),dT (show zs.length=zs.length from rfl),dT (show (d:Int) < (q1.length:Int) by omega),dT (show d < q1.length by omega),i64L c2 (by omega),i64T (show -9223372036854775808≤(d:Int) - 1∧(d:Int) - 1≤9223372036854775807 by omega)] at hr
   rw [show ((d+1:Nat):Int) - 1=(d:Int) by omega,hr]
   unfold sh_rmo hp_rmo
   rw [List.length_set]
   rfl
  ·have hput:=vY_putD 0 c2 (by omega) p5 q1 d d (Nat.le_refl _) hz
   rw [Nat.zero_mul,Nat.add_zero] at hput
   have hd1:d < q1.length:=by omega
   have hg:q1[d]=0:=by
    have:=List.getElem?_eq_getElem hd1
    rw [hz] at this
    exact (Option.some.inj this).symm
   have hdrop:vY (q1.drop d)=vY (q1.drop (d+1)):=by
    rw [List.drop_eq_getElem_cons hd1,vY_consI,hg]
    show 0*_+_=_
    rw [Nat.zero_mul,Nat.zero_add]
   rw [hdrop,p1] at hput
   have hb:=byteAt_lt s d
   obtain ⟨x,hx⟩:∃ x:Nat,byteAt s d=x:= ⟨(byteAt s d).toNat,by omega⟩
   have hsucc:=vB_take_succ s d (by omega)
   rw [hx] at hsucc p6
   have hsucc':vB (s.data.toList.take (d+1))=vB (s.data.toList.take d)*256+x:=by omega
   have hpow:256 ^ (s.size - d)=256*256 ^ (s.size - (d+1)):=by
    rw [show s.size - d=(s.size - (d+1))+1 by omega,Nat.pow_succ,Nat.mul_comm]
   rw [Int.toNat_natCast,show s.size+t.size - (d+t.size+1)=s.size - (d+1) by omega] at p6
   rw [h4,hput,hpow,hsucc',show s.size+t.size - d - 1=s.size+t.size - (d+1) by omega]
   exact rmo_step (V:=0) p6
def pre_rmo (s t:ByteArray) (zs:List Int) (i:Int):Prop:=s.size≤8796093022208∧t.size≤8796093022208∧zs=List.replicate (s.size+t.size) 0∧i=(s.size:Int) - 1
def post_rmo (s t:ByteArray) (zs:List Int) (i:Int) (r:List Int×Int):Prop:=r.1.length=s.size+t.size∧okY r.1∧vY r.1=vS s*vS t
theorem loop_rmo (s t:ByteArray) (zs:List Int) (i:Int) (h:pre_rmo s t zs i):∃ r:List Int×Int,LoopTo Tryz.prog (lb 132 p_rmo) (sh_rmo s t zs i) (hp_rmo s t zs i) (.exit 0) (sh_rmo s t r.1 r.2) (hp_rmo s t r.1 r.2)∧post_rmo s t zs i r:=by
 obtain ⟨h1,h2,rfl,rfl⟩:=h
 obtain ⟨r,k1,k2,k3,k4⟩:=rmo_go s t h1 h2 s.size (List.replicate (s.size+t.size) 0) (Nat.le_refl _) (by rw [List.length_replicate]) (fun z hz=>by rw [(List.mem_replicate.1 hz).2];omega) (fun k hk=>by rw [List.getElem?_replicate,if_pos (by omega)])
 refine ⟨r,k1,k2,k3, ?_⟩
 have e:s.data.toList.take s.size=s.data.toList:=List.take_of_length_le (by rw [Array.length_toList];exact Nat.le_refl _)
 have e0:∀ n:Nat,vY (List.replicate n (0:Int))=0:=by
  intro n
  induction n with
  | zero=>rfl
  | succ n ih=>rw [List.replicate_succ,vY_consI,ih];show 0*_+0=0;omega
 rw [e,List.drop_replicate,e0,Nat.sub_self,Nat.pow_zero,Nat.mul_one,Nat.zero_add] at k4
 exact k4
def told_rmo (κ:ByteArray→ByteArray→List Int→Int→Bool) (φ:ByteArray→ByteArray→List Int→Int→List Int×Int) (T:List AV) (H:Hp):Option (Bool×Ex×List AV×Hp):=
 match lget T 0,lget T 1,lget T 5,lget T 6,H with
 | .val (.string s), .val (.string t), .sl false 3 0 0 m_zs, .val (.int .i64 i), [.row (.ints .i64 zs) 3 .live]=>bif T.length==87 then some (decide (m_zs=zs.length)&&κ s t zs i, .exit 0,sh_rmo s t ((φ s t zs i).1) ((φ s t zs i).2),hp_rmo s t ((φ s t zs i).1) ((φ s t zs i).2)) else none
 | _,_,_,_,_=>none
abbrev KT_rmo:Type:=ByteArray→ByteArray→List Int→Int→Bool
abbrev FT_rmo:Type:=ByteArray→ByteArray→List Int→Int→List Int×Int
def LL_rmo (κ:KT_rmo) (φ:FT_rmo) (L:LTab):LTab:=addLn 0 132 p_rmo [0,1,5,6] (told_rmo κ φ) L
def phi_rmo (s:ByteArray) (t:ByteArray) (zs:List Int) (i:Int):List Int×Int:=Classical.epsilon fun ρ=>LoopTo Tryz.prog (lb 132 p_rmo) (sh_rmo s t zs i) (hp_rmo s t zs i) (.exit 0) (sh_rmo s t (ρ.1) (ρ.2)) (hp_rmo s t (ρ.1) (ρ.2))∧post_rmo s t zs i ρ
theorem phi_rmo_spec (s:ByteArray) (t:ByteArray) (zs:List Int) (i:Int) (h:pre_rmo s t zs i):LoopTo Tryz.prog (lb 132 p_rmo) (sh_rmo s t zs i) (hp_rmo s t zs i) (.exit 0) (sh_rmo s t ((phi_rmo s t zs i).1) ((phi_rmo s t zs i).2)) (hp_rmo s t ((phi_rmo s t zs i).1) ((phi_rmo s t zs i).2))∧post_rmo s t zs i (phi_rmo s t zs i):=Classical.epsilon_spec (loop_rmo s t zs i h)
def cond_rmo (s:ByteArray) (t:ByteArray) (zs:List Int) (i:Int):Bool:= @decide (pre_rmo s t zs i) (Classical.propDecidable _)
theorem cond_rmo_eq (s:ByteArray) (t:ByteArray) (zs:List Int) (i:Int) (h:pre_rmo s t zs i):cond_rmo s t zs i=true:= @decide_eq_true _ (Classical.propDecidable _) h
theorem told_rmo_ok (T:List AV) (H:Hp) (e:Ex) (T1:List AV) (H1:Hp) (h:told_rmo cond_rmo phi_rmo T H=some (true,e,T1,H1)):V.Ends Tryz.prog false 0 0 (.loop (lb 132 p_rmo)) T H e T1 H1:=by
 unfold told_rmo at h
 split at h
 ·rename_i s t m_zs i zs h0 h1 h5 h6
  rw [Bool.cond_eq_ite] at h
  split at h
  ·rename_i hlen
   rw [beq_iff_eq] at hlen
   simp only [Option.some.injEq,Prod.mk.injEq,Bool.and_eq_true,decide_eq_true_eq] at h
   obtain ⟨⟨k1,k2⟩,rfl,rfl,rfl⟩:=h
   have kc:= @of_decide_eq_true _ (Classical.propDecidable _) k2
   refine Ends.pre (phi_rmo_spec s t zs i kc).1.ends (fun α B w D ys hr=>slots_rel hlen (fun p hp y hy=> ?_) hr)
   simp only [List.mem_cons,List.not_mem_nil,or_false] at hp
   rcases hp with rfl | rfl | rfl | rfl
   ·rw [h0] at hy;exact hy
   ·rw [h1] at hy;exact hy
   ·rw [h5] at hy;rw [← k1];exact hy
   ·rw [h6] at hy;exact hy
  ·cases h
 ·cases h
theorem LL_rmo_ok {L:LTab} (h:LOk Tryz.prog L):LOk Tryz.prog (LL_rmo cond_rmo phi_rmo L):=h.add2n body_rmo told_rmo_ok
abbrev p_rmb:List Bool:= [false,true,false,true,true,true,true]
def sh_rmb (zs:List Int) (ys:List Int) (i:Int):List AV:=slots 87 [(5, .sl false 3 0 0 zs.length),(9, .sl false 5 1 0 ys.length),(10, .val (.int .i64 i))]
def hp_rmb (zs:List Int) (ys:List Int) (i:Int):Hp:= [.row (.ints .i64 zs) 3 .live, .row (.ints .u8 ys) 5 .live]
theorem body_rmb:subC Tryz.prog 132 p_rmb=some (.loop (lb 132 p_rmb)):=by kernel_rfl
theorem code_rmb:subC Tryz.prog 132 (false :: p_rmb)=some (lb 132 p_rmb):=by kernel_rfl
theorem round_rmb (zs:List Int) (ys:List Int) (i:Int):roundA Tryz.prog EL0 132 [5,9,10] (lb 132 p_rmb) (false :: p_rmb) (sh_rmb zs ys i) (hp_rmb zs ys i)=
  (bif decide (i < (↑zs.length:Int)) then (bif decide ((0:Int)≤i)&&decide (i < (↑zs.length:Int)) then (bif decide ((0:Nat)+i.toNat*(1:Nat) < zs.length) then (bif decide ((0:Int)≤i)&&decide (i < (↑ys.length:Int)) then (bif decide ((0:Nat)+i.toNat*(1:Nat) < ys.length) then (bif inR IntKind.i64 (i+(1:Int)) then some (.normal,slots 87 [(5,(.sl false 3 0 0 zs.length)),(9,(.sl false 5 1 0 ys.length)),(10,(.val (.int .i64 (i+(1:Int)))))], [(.row (.ints .i64 zs) 3 .live),(.row (.ints .u8 (ys.set ((0:Nat)+i.toNat*(1:Nat)) (IntKind.u8.wrap (zs.getD ((0:Nat)+i.toNat*(1:Nat)) (0:Int))))) 5 .live)]) else none) else none) else none) else none) else none) else some ((.exit 4),slots 87 [(5,(.sl false 3 0 0 zs.length)),(9,(.sl false 5 1 0 ys.length)),(10,(.val (.int .i64 i)))], [(.row (.ints .i64 zs) 3 .live),(.row (.ints .u8 ys) 5 .live)])):=by kernel_rfl
theorem step_rmb {zs:List Int} {ys:List Int} {i:Int} {e:Ex} {T:List AV} {H:Hp} (h:roundA Tryz.prog EL0 132 [5,9,10] (lb 132 p_rmb) (false :: p_rmb) (sh_rmb zs ys i) (hp_rmb zs ys i)=some (e,T,H)):V.Ends Tryz.prog false 0 0 (lb 132 p_rmb) (sh_rmb zs ys i) (hp_rmb zs ys i) e T H:=
 round_ends (meets_none _) loops_none mixed code_rmb h
def pre_rmb (zs ys:List Int) (i:Int):Prop:=okY zs∧ys.length=zs.length∧zs.length≤17592186044416∧i=0
def post_rmb (zs ys:List Int) (i:Int) (r:List Int×Int):Prop:=r.1=zs
theorem rmb_go (zs:List Int) (hok:okY zs) (hl:zs.length≤17592186044416) (d:Nat):∀ (i:Nat) (ys:List Int),i+d=zs.length→ys.length=zs.length→(∀ k:Nat,k < i→ys[k]? =zs[k]?)→
  ∃ r:List Int×Int,LoopTo Tryz.prog (lb 132 p_rmb) (sh_rmb zs ys i) (hp_rmb zs ys i) (.exit 4) (sh_rmb zs r.1 r.2) (hp_rmb zs r.1 r.2)∧r.1=zs:=by
 induction d with
 | zero=>
  intro i ys hi hy hk
  refine ⟨(ys,(i:Int)), .last (step_rmb ?_) (by intro h;cases h), ?_⟩
  ·rw [round_rmb,dF (show ¬ (i:Int) < (zs.length:Int) by omega)];rfl
  ·apply List.ext_getElem?
   intro k
   by_cases h:k < i
   ·exact hk k h
   ·show ys[k]? =zs[k]?
    rw [List.getElem?_eq_none (by omega),List.getElem?_eq_none (by omega)]
 | succ d ih=>
  intro i ys hi hy hk
  obtain ⟨z,hz,hz1,hz2⟩:=getD_byte hok i (by omega)
  obtain ⟨r,h1,h2⟩:=ih (i+1) (ys.set i (z:Int)) (by omega) (by rw [List.length_set];exact hy) (fun k hk2=>by
   by_cases h:k=i
   ·subst h;rw [List.getElem?_set_self (by omega),hz1]
   ·rw [List.getElem?_set_ne (by omega)];exact hk k (by omega))
  refine ⟨r, .more (step_rmb ?_) h1,h2⟩
  rw [round_rmb,Int.toNat_natCast,Nat.zero_add,Nat.mul_one,hz2,u8w,Nat.mod_eq_of_lt hz,dT (show (0:Int)≤(i:Int) by omega),dT (show (i:Int) < (zs.length:Int) by omega),dT (show (i:Int) < (ys.length:Int) by omega),dT (show i < zs.length by omega),dT (show i < ys.length by omega),i64T (show -9223372036854775808≤(i:Int)+1∧(i:Int)+1≤9223372036854775807 by omega)]
  unfold sh_rmb hp_rmb
  rw [List.length_set]
  rfl
theorem loop_rmb (zs ys:List Int) (i:Int) (h:pre_rmb zs ys i):∃ r:List Int×Int,LoopTo Tryz.prog (lb 132 p_rmb) (sh_rmb zs ys i) (hp_rmb zs ys i) (.exit 4) (sh_rmb zs r.1 r.2) (hp_rmb zs r.1 r.2)∧post_rmb zs ys i r:=by
 obtain ⟨h1,h2,h3,rfl⟩:=h
 exact rmb_go zs h1 h3 zs.length 0 ys (by omega) h2 (fun k hk=>absurd hk (by omega))
def told_rmb (κ:List Int→List Int→Int→Bool) (φ:List Int→List Int→Int→List Int×Int) (T:List AV) (H:Hp):Option (Bool×Ex×List AV×Hp):=
 match lget T 5,lget T 9,lget T 10,H with
 | .sl false 3 0 0 m_zs, .sl false 5 1 0 m_ys, .val (.int .i64 i), [.row (.ints .i64 zs) 3 .live, .row (.ints .u8 ys) 5 .live]=>bif T.length==87 then some (decide (m_zs=zs.length)&&decide (m_ys=ys.length)&&κ zs ys i, .exit 4,sh_rmb zs ((φ zs ys i).1) ((φ zs ys i).2),hp_rmb zs ((φ zs ys i).1) ((φ zs ys i).2)) else none
 | _,_,_,_=>none
abbrev KT_rmb:Type:=List Int→List Int→Int→Bool
abbrev FT_rmb:Type:=List Int→List Int→Int→List Int×Int
def LL_rmb (κ:KT_rmb) (φ:FT_rmb) (L:LTab):LTab:=addLn 0 132 p_rmb [5,9,10] (told_rmb κ φ) L
def phi_rmb (zs:List Int) (ys:List Int) (i:Int):List Int×Int:=Classical.epsilon fun ρ=>LoopTo Tryz.prog (lb 132 p_rmb) (sh_rmb zs ys i) (hp_rmb zs ys i) (.exit 4) (sh_rmb zs (ρ.1) (ρ.2)) (hp_rmb zs (ρ.1) (ρ.2))∧post_rmb zs ys i ρ
theorem phi_rmb_spec (zs:List Int) (ys:List Int) (i:Int) (h:pre_rmb zs ys i):LoopTo Tryz.prog (lb 132 p_rmb) (sh_rmb zs ys i) (hp_rmb zs ys i) (.exit 4) (sh_rmb zs ((phi_rmb zs ys i).1) ((phi_rmb zs ys i).2)) (hp_rmb zs ((phi_rmb zs ys i).1) ((phi_rmb zs ys i).2))∧post_rmb zs ys i (phi_rmb zs ys i):=Classical.epsilon_spec (loop_rmb zs ys i h)
def cond_rmb (zs:List Int) (ys:List Int) (i:Int):Bool:= @decide (pre_rmb zs ys i) (Classical.propDecidable _)
theorem cond_rmb_eq (zs:List Int) (ys:List Int) (i:Int) (h:pre_rmb zs ys i):cond_rmb zs ys i=true:= @decide_eq_true _ (Classical.propDecidable _) h
theorem told_rmb_ok (T:List AV) (H:Hp) (e:Ex) (T1:List AV) (H1:Hp) (h:told_rmb cond_rmb phi_rmb T H=some (true,e,T1,H1)):V.Ends Tryz.prog false 0 0 (.loop (lb 132 p_rmb)) T H e T1 H1:=by
 unfold told_rmb at h
 split at h
 ·rename_i m_zs m_ys i zs ys h5 h9 h10
  rw [Bool.cond_eq_ite] at h
  split at h
  ·rename_i hlen
   rw [beq_iff_eq] at hlen
   simp only [Option.some.injEq,Prod.mk.injEq,Bool.and_eq_true,decide_eq_true_eq] at h
   obtain ⟨⟨⟨k1,k2⟩,k3⟩,rfl,rfl,rfl⟩:=h
   have kc:= @of_decide_eq_true _ (Classical.propDecidable _) k3
   refine Ends.pre (phi_rmb_spec zs ys i kc).1.ends (fun α B w D ys hr=>slots_rel hlen (fun p hp y hy=> ?_) hr)
   simp only [List.mem_cons,List.not_mem_nil,or_false] at hp
   rcases hp with rfl | rfl | rfl
   ·rw [h5] at hy;rw [← k1];exact hy
   ·rw [h9] at hy;rw [← k2];exact hy
   ·rw [h10] at hy;exact hy
  ·cases h
 ·cases h
theorem LL_rmb_ok {L:LTab} (h:LOk Tryz.prog L):LOk Tryz.prog (LL_rmb cond_rmb phi_rmb L):=h.add2n body_rmb told_rmb_ok
def ERo (S:Sg) (κ:KT_rmo) (φ:FT_rmo) (κ2:KT_rmb) (φ2:FT_rmb):Env:= ⟨addC 160 (tStrip S) noC,Kall,LL_rmo κ φ (LL_rmb κ2 φ2 noL)⟩
theorem rmul_call (S:Sg) (κ:KT_rmo) (φ:FT_rmo) (κ2:KT_rmb) (φ2:FT_rmb) (s t:ByteArray):letI q_3:=((↑s.size:Int)+(↑t.size:Int));letI q_1:=(φ s t (List.replicate q_3.toNat (0:Int)) ((↑s.size:Int) - (1:Int)));letI q_2:=(List.replicate (↑q_1.fst.length:Int).toNat (0:Int));
  (callA Tryz.prog (ERo S κ φ κ2 φ2) 10 10 132 [.val (.string s), .val (.string t)]=(bif inR IntKind.i64 q_3 then (bif decide ((↑s.size:Int)+(↑t.size:Int)≤(↑s.size:Int)+(↑t.size:Int))&&decide ((8:Int)*q_3≤(281474976710656:Int))&&decide ((↑s.size:Int)+(↑t.size:Int)≤(9223372036854775807:Int)) then (bif inR IntKind.i64 ((↑s.size:Int) - (1:Int)) then (bif decide (q_3.toNat=(List.replicate q_3.toNat (0:Int)).length)&&κ s t (List.replicate q_3.toNat (0:Int)) ((↑s.size:Int) - (1:Int)) then (bif decide ((↑q_1.fst.length:Int)≤(↑q_1.fst.length:Int))&&decide ((1:Int)*(↑q_1.fst.length:Int)≤(281474976710656:Int))&&decide ((↑q_1.fst.length:Int)≤(9223372036854775807:Int)) then (bif decide (q_1.fst.length=q_1.fst.length)&&decide ((↑q_1.fst.length:Int).toNat=q_2.length)&&κ2 q_1.fst q_2 (0:Int) then (bif decide ((0:Nat)+(φ2 q_1.fst q_2 (0:Int)).fst.length*(1:Nat)≤(φ2 q_1.fst q_2 (0:Int)).fst.length) then some (.val (.string (S.mg (S.vs (ofBytes (List.take ((φ2 q_1.fst q_2 (0:Int)).fst.length*(1:Nat)) (List.drop (0:Nat) (φ2 q_1.fst q_2 (0:Int)).fst))))))) else none) else none) else none) else none) else none) else none) else none)):=by kernel_rfl
end
end Go.Proofs.YtamcpiicmfielaaGreat.L
namespace Go.Proofs.YtamcpiicmfielaaGreat.L
open Go Go.V Go.RowKit Go.Proofs.YtamcpiicmfielaaGreat.Sp Go.Proofs.YtamcpiicmfielaaGreat.F Go.Proofs.YtamcpiicmfielaaGreatW.PrintWords
open Go.Proofs (Tryz.prog)
noncomputable section
def tRMulM (S:Sg) (args:List AV):Option (Bool×AV):=match args with | [.val (.string s), .val (.string t)]=>some (S.ok s&&S.ok t, .val (.string (S.mg (S.vs s*S.vs t)))) | _=>none
theorem toNatN (n:Nat):(n:Int).toNat=n:=of_eq_true (eq_true rfl)
theorem eRMulM:Entry Tryz.prog 132 (tRMulM sg0):=by
 refine entry_of (E:=ERo sg0 cond_rmo phi_rmo cond_rmb phi_rmb) (u:=10) (d:=10) ((meets_none _).add eRTrim) (LL_rmo_ok (LL_rmb_ok LOk.none)).ok mixed (by kernel_rfl) (fun args r h=> ?_)
 unfold tRMulM at h
 split at h
 ·rename_i s t
  simp only [Option.some.injEq,Prod.mk.injEq,Bool.and_eq_true] at h
  obtain ⟨⟨h1,h2⟩,rfl⟩:=h
  have z1:=ok_size h1
  have z2:=ok_size h2
  have hp:pre_rmo s t (List.replicate (s.size+t.size) 0) ((s.size:Int) - 1):= ⟨z1,z2,rfl,rfl⟩
  obtain ⟨_,c1,c2,c3⟩:=phi_rmo_spec _ _ _ _ hp
  have hcall:=rmul_call sg0 cond_rmo phi_rmo cond_rmb phi_rmb s t
  have en:((s.size:Int)+(t.size:Int))=((s.size+t.size:Nat):Int):=(Int.natCast_add _ _).symm
  rw [en] at hcall
  simp only [toNatN,List.length_replicate,eq_self,decide_true] at hcall
  rw [cond_rmo_eq _ _ _ _ hp] at hcall
  have hp2:pre_rmb (phi_rmo s t (List.replicate (s.size+t.size) 0) ((s.size:Int) - 1)).1 (List.replicate (phi_rmo s t (List.replicate (s.size+t.size) 0) ((s.size:Int) - 1)).1.length 0) 0:= ⟨c2,by rw [List.length_replicate],by omega,rfl⟩
  obtain ⟨_,d1⟩:=phi_rmb_spec _ _ _ hp2
  rw [cond_rmb_eq _ _ _ hp2] at hcall
  have d1:(phi_rmb (phi_rmo s t (List.replicate (s.size+t.size) 0) ((s.size:Int) - 1)).1 (List.replicate (phi_rmo s t (List.replicate (s.size+t.size) 0) ((s.size:Int) - 1)).1.length 0) 0).1=(phi_rmo s t (List.replicate (s.size+t.size) 0) ((s.size:Int) - 1)).1:=d1
  rw [d1,i64L _ (by omega),dT (show ((s.size+t.size:Nat):Int)≤((s.size+t.size:Nat):Int) by omega),dT (show (8:Int)*((s.size+t.size:Nat):Int)≤281474976710656 by omega),dT (show ((s.size+t.size:Nat):Int)≤9223372036854775807 by omega),i64T (show -9223372036854775808≤(s.size:Int) - 1∧(s.size:Int) - 1≤9223372036854775807 by omega),dT (show (((phi_rmo s t (List.replicate (s.size+t.size) 0) ((s.size:Int) - 1)).1.length:Nat):Int)≤(((phi_rmo s t (List.replicate (s.size+t.size) 0) ((s.size:Int) - 1)).1.length:Nat):Int) by omega),dT (show (1:Int)*(((phi_rmo s t (List.replicate (s.size+t.size) 0) ((s.size:Int) - 1)).1.length:Nat):Int)≤281474976710656 by omega),dT (show (((phi_rmo s t (List.replicate (s.size+t.size) 0) ((s.size:Int) - 1)).1.length:Nat):Int)≤9223372036854775807 by omega),dT (show 0+(phi_rmo s t (List.replicate (s.size+t.size) 0) ((s.size:Int) - 1)).1.length*1≤(phi_rmo s t (List.replicate (s.size+t.size) 0) ((s.size:Int) - 1)).1.length by omega),Nat.mul_one,List.drop_zero,List.take_length] at hcall
  have e2:sg0.vs (ofBytes (phi_rmo s t (List.replicate (s.size+t.size) 0) ((s.size:Int) - 1)).1)=sg0.vs s*sg0.vs t:=c3
  rw [← e2]
  exact hcall
 ·cases h
def CRM (S:Sg):FuncId→List AV→Option (Bool×AV):=addC 130 (tCanon S) (addC 132 (tRMulM S) (addC 131 (tRValue S) (addC 124 (tOf S) noC)))
theorem CRM_ok:Meets Tryz.prog (CRM sg0):=((((meets_none _).add eROf).add eRValue).add eRMulM).add eCanon
theorem rmulI_call (S:Sg) (b c:Bool) (s t:ByteArray):letI q_1:=(S.val (S.ng (S.val b s)) (S.ms (S.val b s))*S.val (S.ng (S.val c t)) (S.ms (S.val c t)));
  (callA Tryz.prog ⟨CRM S,Kall,noL⟩ 10 10 96 [.agg [.val (.bool b), .val (.string s)], .agg [.val (.bool c), .val (.string t)]]=(bif strEq (S.ms (S.val b s)) (ByteArray.mk #[]) then some (.agg [(.val (.bool false)),(.val (.string (ByteArray.mk #[])))]) else (bif strEq (S.ms (S.val c t)) (ByteArray.mk #[]) then some (.agg [(.val (.bool false)),(.val (.string (ByteArray.mk #[])))]) else (bif inR IntKind.i64 ((↑(S.ms (S.val b s)).size:Int)+(↑(S.ms (S.val c t)).size:Int)) then (bif decide ((↑(S.ms (S.val b s)).size:Int)+(↑(S.ms (S.val c t)).size:Int) < (8:Int)) then (bif decide ((S.ms (S.val b s)).size≤(8:Nat))&&decide (S.vs (S.ms (S.val b s)) < (9223372036854775808:Nat)) then (bif decide ((S.ms (S.val c t)).size≤(8:Nat))&&decide (S.vs (S.ms (S.val c t)) < (9223372036854775808:Nat)) then (bif inR IntKind.i64 q_1 then (bif inI q_1 then some (.agg [(.val (.bool (S.ng q_1))),(.val (.string (S.ms q_1)))]) else none) else none) else none) else none) else (bif S.ok (S.ms (S.val b s))&&S.ok (S.ms (S.val c t)) then some (.agg [(.val (.bool (bif true then !S.ng (S.val b s)==S.ng (S.val c t) else S.ng (S.val b s)==S.ng (S.val c t)))),(.val (.string (S.mg (S.vs (S.ms (S.val b s))*S.vs (S.ms (S.val c t))))))]) else none)) else none)))):=by kernel_rfl
theorem bs_prod {a b:Nat} (h:bs a+bs b < 8):a*b < 72057594037927936:=by
 have h1:=bs_mul a b
 exact small7 (by omega)
theorem eRMul:Entry Tryz.prog 96 (tMul sg0):=by
 refine entry_of (E:= ⟨CRM sg0,Kall,noL⟩) (u:=10) (d:=10) CRM_ok loops_none mixed (by kernel_rfl) (fun args r h=> ?_)
 unfold tMul at h
 split at h
 ·rename_i b s c t
  simp only [Option.some.injEq,Prod.mk.injEq,Bool.and_eq_true] at h
  obtain ⟨⟨h1,h2⟩,rfl⟩:=h
  have hcall:=rmulI_call sg0 b c s t
  have bx:=Nat.le_trans (bs_val b s) (ok_size h1)
  have by_:=Nat.le_trans (bs_val c t) (ok_size h2)
  generalize sg0.val b s=x at*
  generalize sg0.val c t=y at*
  simp only [vs_ms,size_ms,val_ms,msnil] at hcall
  rw [ok_ms bx,ok_ms by_] at hcall
  rw [hcall]
  clear hcall
  by_cases hx:x=0
  ·rw [dT hx,hx,Int.zero_mul]
   unfold Sg.int
   rw [ms_zero]
   rfl
  by_cases hy:y=0
  ·rw [dF hx,dT hy,hy,Int.mul_zero]
   unfold Sg.int
   rw [ms_zero]
   rfl
  rw [dF hx,dF hy,i64T (show -9223372036854775808≤(bs x.natAbs:Int)+(bs y.natAbs:Int)∧(bs x.natAbs:Int)+(bs y.natAbs:Int)≤9223372036854775807 by omega)]
  by_cases hsm:(bs x.natAbs:Int)+(bs y.natAbs:Int) < 8
  ·have k:=bs_prod (show bs x.natAbs+bs y.natAbs < 8 by omega)
   have k1:=small7 (show bs x.natAbs < 8 by omega)
   have k2:=small7 (show bs y.natAbs < 8 by omega)
   have k3:(x*y).natAbs < 72057594037927936:=by rw [Int.natAbs_mul];exact k
   rw [dT hsm,dT (show bs x.natAbs≤8 by omega),dT (show bs y.natAbs≤8 by omega),dT (show x.natAbs < 9223372036854775808 by omega),dT (show y.natAbs < 9223372036854775808 by omega),i64T (show -9223372036854775808≤x*y∧x*y≤9223372036854775807 by omega)]
   unfold inI
   rw [dT (show -9223372036854775808≤x*y by omega),dT (show x*y≤9223372036854775807 by omega)]
   rfl
  ·rw [dF hsm]
   have hsg:(!(sg0.ng x==sg0.ng y))=decide (x*y < 0):=by
    rcases Int.lt_or_gt_of_ne hx with a1 | a1 <;> rcases Int.lt_or_gt_of_ne hy with a2 | a2
    ·have:=Int.mul_pos_of_neg_of_neg a1 a2
     rw [ng_beq (by omega),dF (show ¬ x*y < 0 by omega)];rfl
    ·have:=Int.mul_neg_of_neg_of_pos a1 a2
     rw [ng_bne (by omega),dT (show x*y < 0 by omega)];rfl
    ·have:=Int.mul_neg_of_pos_of_neg a1 a2
     rw [ng_bne (by omega),dT (show x*y < 0 by omega)];rfl
    ·have:=Int.mul_pos a1 a2
     rw [ng_beq (by omega),dF (show ¬ x*y < 0 by omega)];rfl
   exact congrArg some (int_eq (n:=x.natAbs*y.natAbs) hsg (Int.natAbs_mul x y).symm)
 ·cases h
end
end Go.Proofs.YtamcpiicmfielaaGreat.L
