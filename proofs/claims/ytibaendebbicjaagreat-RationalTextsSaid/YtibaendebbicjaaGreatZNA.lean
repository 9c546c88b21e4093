import Derived.Test.YtibaendebbicjaaGreatZQA
set_option linter.unusedVariables false
set_option linter.unusedSimpArgs false
namespace Go.Proofs.YtibaendebbicjaaGreat.L
open Go Go.V Go.RowKit Go.Proofs.YtibaendebbicjaaGreat.Sp Go.Proofs.YtibaendebbicjaaGreat.F Go.Proofs.YtibaendebbicjaaGreatW.PrintWords
open Go.Proofs (Tryz.prog)
noncomputable section
def vY (zs:List Int):Nat:=vB (zs.map fun z=>UInt8.ofNat z.toNat)
theorem vY_cons (x:Nat) (zs:List Int) (h:x < 256):vY ((x:Int) :: zs)=x*256 ^ zs.length+vY zs:=by
 unfold vY
 rw [List.map_cons,vB_cons,List.length_map,Int.toNat_natCast,UInt8.toNat_ofNat',Nat.mod_eq_of_lt h]
theorem vY_nil:vY []=0:=rfl
theorem vY_set (zs:List Int) (j x:Nat) (hj:j < zs.length) (hx:x < 256):vY ((zs.set j (x:Int)).drop j)=x*256 ^ (zs.length - j - 1)+vY (zs.drop (j+1)):=by
 rw [List.drop_eq_getElem_cons (by rw [List.length_set];exact hj),List.getElem_set_self,vY_cons _ _ hx,List.length_drop,List.length_set,List.drop_set_of_lt (by omega)]
 rw [show zs.length - (j+1)=zs.length - j - 1 by omega]
theorem digit_at (s:ByteArray) (i:Nat) (h1:i < s.size):byteAt s (s.size - (i+1))=((vS s / 256 ^ i % 256:Nat):Int):=by
 have hl:s.size - (i+1) < s.data.toList.length:=by rw [← size_list];omega
 unfold byteAt
 rw [List.getD_eq_getElem?_getD,List.getElem?_eq_getElem hl,Option.getD_some]
 have e:s.data.toList=s.data.toList.take (s.size - (i+1)) ++ (s.data.toList[s.size - (i+1)] :: s.data.toList.drop (s.size - (i+1)+1)):=by
  rw [← List.drop_eq_getElem_cons hl,List.take_append_drop]
 have hv:vS s=vB s.data.toList:=rfl
 have hd:(s.data.toList.drop (s.size - (i+1)+1)).length=i:=by rw [List.length_drop,← size_list];omega
 have hlt:=vB_lt (s.data.toList.drop (s.size - (i+1)+1))
 rw [hd] at hlt
 have hc:=(s.data.toList[s.size - (i+1)]).toNat_lt
 have hv2:vS s=(vB (s.data.toList.take (s.size - (i+1)))*256+(s.data.toList[s.size - (i+1)]).toNat)*256 ^ i+vB (s.data.toList.drop (s.size - (i+1)+1)):=by
  rw [hv]
  conv=>lhs;rw [e]
  rw [vB_append,List.length_cons,hd,vB_cons,hd,Nat.pow_succ,Nat.add_mul]
  have:∀ a:Nat,a*(256 ^ i*256)=a*256*256 ^ i:=fun a=>by rw [Nat.mul_assoc,Nat.mul_comm 256]
  rw [this]
  omega
 rw [hv2,Nat.mul_comm _ (256 ^ i),Nat.mul_add_div (Nat.pow_pos (by decide)),Nat.div_eq_of_lt hlt]
 omega
theorem no_digit (s:ByteArray) (i:Nat) (h:s.size≤i):vS s / 256 ^ i % 256=0:=by
 rw [Nat.div_eq_of_lt (Nat.lt_of_lt_of_le (vS_lt s) (Nat.pow_le_pow_right (by decide) h))]
theorem mod_succ (V i:Nat):V % 256 ^ (i+1)=V % 256 ^ i+256 ^ i*(V / 256 ^ i % 256):=by rw [Nat.pow_succ,Nat.mod_mul]
theorem byte_step {p n v c o:Nat} (h:v+p*c=o):n % 256*p+v+p*256*(n / 256)+p*c=o+p*n:=by
 have e:p*(n % 256)+p*256*(n / 256)=p*n:=by rw [Nat.mul_assoc,← Nat.mul_add,Nat.mod_add_div]
 rw [Nat.mul_comm (n % 256)]
 omega
theorem u8w (n:Nat):IntKind.u8.wrap (n:Int)=((n % 256:Nat):Int):=by rw [u8_wrap];rfl
theorem fdiv256 (a:Nat):(a:Int).fdiv (256:Int)=((a / 256:Nat):Int):=fdivN a 256
abbrev p_radd:List Bool:= [false,true,false,true,true,true,true]
def sh_radd (s:ByteArray) (t:ByteArray) (n:Int) (zs:List Int) (c:Int) (i:Int):List AV:=slots 60 [(0, .val (.string s)),(1, .val (.string t)),(5, .val (.int .i64 n)),(6, .sl false 5 0 0 zs.length),(7, .val (.int .i64 c)),(8, .val (.int .i64 i))]
def hp_radd (s:ByteArray) (t:ByteArray) (n:Int) (zs:List Int) (c:Int) (i:Int):Hp:= [.row (.ints .u8 zs) 5 .live]
theorem body_radd:subC Tryz.prog 100 p_radd=some (.loop (lb 100 p_radd)):=by kernel_rfl
theorem code_radd:subC Tryz.prog 100 (false :: p_radd)=some (lb 100 p_radd):=by kernel_rfl
theorem round_radd (s:ByteArray) (t:ByteArray) (n:Int) (zs:List Int) (c:Int) (i:Int):letI q_1:=(c+byteAt s ((↑s.size:Int) - i).toNat+byteAt t ((↑t.size:Int) - i).toNat);letI q_2:=((0:Nat)+(n - i).toNat*(1:Nat));
  (roundA Tryz.prog EL0 100 [0,1,5,6,7,8] (lb 100 p_radd) (false :: p_radd) (sh_radd s t n zs c i) (hp_radd s t n zs c i)=(bif decide (i≤n) then (bif decide (i≤(↑s.size:Int)) then (bif inR IntKind.i64 ((↑s.size:Int) - i) then (bif decide ((0:Int)≤(↑s.size:Int) - i)&&decide ((↑s.size:Int) - i < (↑s.size:Int)) then (bif inR IntKind.i64 (byteAt s ((↑s.size:Int) - i).toNat) then (bif inR IntKind.i64 (c+byteAt s ((↑s.size:Int) - i).toNat) then (bif decide (i≤(↑t.size:Int)) then (bif inR IntKind.i64 ((↑t.size:Int) - i) then (bif decide ((0:Int)≤(↑t.size:Int) - i)&&decide ((↑t.size:Int) - i < (↑t.size:Int)) then (bif inR IntKind.i64 (byteAt t ((↑t.size:Int) - i).toNat) then (bif inR IntKind.i64 q_1 then (bif inR IntKind.i64 (n - i) then (bif decide ((0:Int)≤n - i)&&decide (n - i < (↑zs.length:Int)) then (bif decide ((0:Nat)+(n - i).toNat*(1:Nat) < zs.length) then (bif inR IntKind.i64 (i+(1:Int)) then some (.normal,slots 60 [(0,(.val (.string s))),(1,(.val (.string t))),(5,(.val (.int .i64 n))),(6,(.sl false 5 0 0 zs.length)),(7,(.val (.int .i64 (q_1.fdiv (256:Int))))),(8,(.val (.int .i64 (i+(1:Int)))))], [(.row (.ints .u8 (zs.set q_2 (IntKind.u8.wrap q_1))) 5 .live)]) else none) else none) else none) else none) else none) else none) else none) else none) else (bif inR IntKind.i64 (n - i) then (bif decide ((0:Int)≤n - i)&&decide (n - i < (↑zs.length:Int)) then (bif decide ((0:Nat)+(n - i).toNat*(1:Nat) < zs.length) then (bif inR IntKind.i64 (i+(1:Int)) then some (.normal,slots 60 [(0,(.val (.string s))),(1,(.val (.string t))),(5,(.val (.int .i64 n))),(6,(.sl false 5 0 0 zs.length)),(7,(.val (.int .i64 ((c+byteAt s ((↑s.size:Int) - i).toNat).fdiv (256:Int))))),(8,(.val (.int .i64 (i+(1:Int)))))], [(.row (.ints .u8 (zs.set q_2 (IntKind.u8.wrap (c+byteAt s ((↑s.size:Int) - i).toNat)))) 5 .live)]) else none) else none) else none) else none)) else none) else none) else none) else none) else (bif decide (i≤(↑t.size:Int)) then (bif inR IntKind.i64 ((↑t.size:Int) - i) then (bif decide ((0:Int)≤(↑t.size:Int) - i)&&decide ((↑t.size:Int) - i < (↑t.size:Int)) then (bif inR IntKind.i64 (byteAt t ((↑t.size:Int) - i).toNat) then (bif inR IntKind.i64 (c+byteAt t ((↑t.size:Int) - i).toNat) then (bif inR IntKind.i64 (n - i) then (bif decide ((0:Int)≤n - i)&&decide (n - i < (↑zs.length:Int)) then (bif decide ((0:Nat)+(n - i).toNat*(1:Nat) < zs.length) then (bif inR IntKind.i64 (i+(1:Int)) then some (.normal,slots 60 [(0,(.val (.string s))),(1,(.val (.string t))),(5,(.val (.int .i64 n))),(6,(.sl false 5 0 0 zs.length)),(7,(.val (.int .i64 ((c+byteAt t ((↑t.size:Int) - i).toNat).fdiv (256:Int))))),(8,(.val (.int .i64 (i+(1:Int)))))], [(.row (.ints .u8 (zs.set q_2 (IntKind.u8.wrap (c+byteAt t ((↑t.size:Int) - i).toNat)))) 5 .live)]) else none) else none) else none) else none) else none) else none) else none) else none) else (bif inR IntKind.i64 (n - i) then (bif decide ((0:Int)≤n - i)&&decide (n - i < (↑zs.length:Int)) then (bif decide ((0:Nat)+(n - i).toNat*(1:Nat) < zs.length) then (bif inR IntKind.i64 (i+(1:Int)) then some (.normal,slots 60 [(0,(.val (.string s))),(1,(.val (.string t))),(5,(.val (.int .i64 n))),(6,(.sl false 5 0 0 zs.length)),(7,(.val (.int .i64 (c.fdiv (256:Int))))),(8,(.val (.int .i64 (i+(1:Int)))))], [(.row (.ints .u8 (zs.set q_2 (IntKind.u8.wrap c))) 5 .live)]) else none) else none) else none) else none))) else some ((.exit 0),slots 60 [(0,(.val (.string s))),(1,(.val (.string t))),(5,(.val (.int .i64 n))),(6,(.sl false 5 0 0 zs.length)),(7,(.val (.int .i64 c))),(8,(.val (.int .i64 i)))], [(.row (.ints .u8 zs) 5 .live)]))):=by kernel_rfl
theorem step_radd {s:ByteArray} {t:ByteArray} {n:Int} {zs:List Int} {c:Int} {i:Int} {e:Ex} {T:List AV} {H:Hp} (h:roundA Tryz.prog EL0 100 [0,1,5,6,7,8] (lb 100 p_radd) (false :: p_radd) (sh_radd s t n zs c i) (hp_radd s t n zs c i)=some (e,T,H)):V.Ends Tryz.prog false 0 0 (lb 100 p_radd) (sh_radd s t n zs c i) (hp_radd s t n zs c i) e T H:=
 round_ends (meets_none _) loops_none mixed code_radd h
def pre_radd (s t:ByteArray) (n:Int) (zs:List Int) (c i:Int):Prop:=s.size≤8796093022208∧t.size≤8796093022208∧n=((max s.size t.size+1:Nat):Int)∧zs.length=max s.size t.size+1∧c=0∧i=1
def post_radd (s t:ByteArray) (n:Int) (zs:List Int) (c i:Int) (r:List Int×Int×Int):Prop:=r.1.length=max s.size t.size+1∧vY r.1=vS s+vS t
theorem radd_go (s t:ByteArray) (hs:s.size≤8796093022208) (ht:t.size≤8796093022208) (n:Nat) (hn:n=max s.size t.size+1) (d:Nat):∀ (i c:Nat) (zs:List Int),i+d=n→zs.length=n→c≤1→
  Aside0 (vY (zs.drop (n - i))+256 ^ i*c=vS s % 256 ^ i+vS t % 256 ^ i)→
  ∃ r:List Int×Int×Int,LoopTo Tryz.prog (lb 100 p_radd) (sh_radd s t n zs c ((i+1:Nat):Int)) (hp_radd s t n zs c ((i+1:Nat):Int)) (.exit 0) (sh_radd s t n r.1 r.2.1 r.2.2) (hp_radd s t n r.1 r.2.1 r.2.2)∧r.1.length=n∧vY r.1=vS s+vS t:=by
 induction d with
 | zero=>
  intro i c zs hi hl hc hv
  have hi':i=n:=by omega
  refine ⟨(zs,(c:Int),((i+1:Nat):Int)), .last (step_radd ?_) (by intro h;cases h),hl, ?_⟩
  ·rw [round_radd,dF (show ¬ (((i+1:Nat):Int)≤n) by omega)]
   rfl
  ·have hv:=hv.out
   rw [hi',Nat.sub_self,List.drop_zero] at hv
   have h1:vS s < 256 ^ (n - 1):=Nat.lt_of_lt_of_le (vS_lt s) (Nat.pow_le_pow_right (by decide) (by omega))
   have h2:vS t < 256 ^ (n - 1):=Nat.lt_of_lt_of_le (vS_lt t) (Nat.pow_le_pow_right (by decide) (by omega))
   have h3:256 ^ n=256 ^ (n - 1)*256:=by rw [← Nat.pow_succ];exact congrArg (256 ^ ·) (by omega)
   rw [h3] at hv
   rw [Nat.mod_eq_of_lt (show vS s < 256 ^ (n - 1)*256 by omega),Nat.mod_eq_of_lt (show vS t < 256 ^ (n - 1)*256 by omega)] at hv
   show vY zs=_
   rcases Nat.eq_zero_or_pos c with h0 | h0
   ·rw [h0] at hv;omega
   ·have:=Nat.le_mul_of_pos_right (256 ^ (n - 1)*256) h0
    omega
 | succ d ih=>
  intro i c zs hi hl hc HV
  have hin:i < n:=by omega
  have hj:n - (i+1) < zs.length:=by omega
  have go:∀ x y:Nat,x < 256→y < 256→x=vS s / 256 ^ i % 256→y=vS t / 256 ^ i % 256→
    roundA Tryz.prog EL0 100 [0,1,5,6,7,8] (lb 100 p_radd) (false :: p_radd) (sh_radd s t n zs c ((i+1:Nat):Int)) (hp_radd s t n zs c ((i+1:Nat):Int))=some (.normal,sh_radd s t n (zs.set (n - (i+1)) ((c+x+y) % 256:Nat)) ((c+x+y) / 256:Nat) ((i+1+1:Nat):Int),hp_radd s t n (zs.set (n - (i+1)) ((c+x+y) % 256:Nat)) ((c+x+y) / 256:Nat) ((i+1+1:Nat):Int))→
    ∃ r:List Int×Int×Int,LoopTo Tryz.prog (lb 100 p_radd) (sh_radd s t n zs c ((i+1:Nat):Int)) (hp_radd s t n zs c ((i+1:Nat):Int)) (.exit 0) (sh_radd s t n r.1 r.2.1 r.2.2) (hp_radd s t n r.1 r.2.1 r.2.2)∧r.1.length=n∧vY r.1=vS s+vS t:=by
   intro x y hx hy ex ey hr
   obtain ⟨r,h1,h2⟩:=ih (i+1) ((c+x+y) / 256) (zs.set (n - (i+1)) ((c+x+y) % 256:Nat)) (by omega) (by rw [List.length_set];exact hl) (by omega) (by
    have hv:=HV.out
    constructor
    rw [vY_set _ _ _ hj (Nat.mod_lt _ (by decide)),hl,show n - (n - (i+1)) - 1=i by omega,show n - (i+1)+1=n - i by omega,mod_succ,mod_succ,← ex,← ey,Nat.pow_succ]
    have h3:=byte_step (n:=c+x+y) hv
    simp only [Nat.mul_add] at h3 ⊢
    omega)
   exact ⟨r, .more (step_radd hr) h1,h2⟩
  have hr:=round_radd s t n zs c ((i+1:Nat):Int)
  have en:(n:Int) - ((i+1:Nat):Int)=((n - (i+1):Nat):Int):=by omega
  have es:i < s.size→(s.size:Int) - ((i+1:Nat):Int)=((s.size - (i+1):Nat):Int):=fun h=>by omega
  have et:i < t.size→(t.size:Int) - ((i+1:Nat):Int)=((t.size - (i+1):Nat):Int):=fun h=>by omega
  have e2:((i+1:Nat):Int)+1=((i+1+1:Nat):Int):=by omega
  have hdx:=Nat.mod_lt (vS s / 256 ^ i) (show 0 < 256 by decide)
  have hdy:=Nat.mod_lt (vS t / 256 ^ i) (show 0 < 256 by decide)
  have dx:=digit_at s i
  have dy:=digit_at t i
  have nx:=no_digit s i
  have ny:=no_digit t i
  generalize vS s / 256 ^ i % 256=x at*
  generalize vS t / 256 ^ i % 256=y at*
  have q1:inR .i64 ((n - (i+1):Nat):Int)=true:=i64L _ (by omega)
  have q2:inR .i64 ((i+1+1:Nat):Int)=true:=i64L _ (by omega)
  refine go x y hdx hdy rfl rfl ?_
  rw [en,e2,q1,q2,dT (show ((i+1:Nat):Int)≤n by omega),dT (show (0:Int)≤((n - (i+1):Nat):Int) by omega),dT (show ((n - (i+1):Nat):Int) < (zs.length:Int) by omega),Int.toNat_natCast,Nat.zero_add,Nat.mul_one,dT hj] at hr
  by_cases hsi:i < s.size
  ·rw [dT (show ((i+1:Nat):Int)≤s.size by omega),es hsi,i64L (s.size - (i+1)) (by omega),dT (show (0:Int)≤((s.size - (i+1):Nat):Int) by omega),dT (show ((s.size - (i+1):Nat):Int) < (s.size:Int) by omega),Int.toNat_natCast,dx hsi,i64L x (by omega),← Int.natCast_add,i64L (c+x) (by omega)] at hr
   by_cases hti:i < t.size
   ·rw [dT (show ((i+1:Nat):Int)≤t.size by omega),et hti,i64L (t.size - (i+1)) (by omega),dT (show (0:Int)≤((t.size - (i+1):Nat):Int) by omega),dT (show ((t.size - (i+1):Nat):Int) < (t.size:Int) by omega),Int.toNat_natCast,dy hti,i64L y (by omega),← Int.natCast_add,i64L (c+x+y) (by omega),u8w,fdiv256] at hr
    rw [hr]
    unfold sh_radd hp_radd
    rw [List.length_set]
    rfl
   ·have hy0:=ny (by omega)
    rw [dF (show ¬ ((i+1:Nat):Int)≤t.size by omega),u8w,fdiv256] at hr
    rw [hr,hy0]
    unfold sh_radd hp_radd
    rw [List.length_set]
    rfl
  ·have hx0:=nx (by omega)
   rw [dF (show ¬ ((i+1:Nat):Int)≤s.size by omega)] at hr
   by_cases hti:i < t.size
   ·rw [dT (show ((i+1:Nat):Int)≤t.size by omega),et hti,i64L (t.size - (i+1)) (by omega),dT (show (0:Int)≤((t.size - (i+1):Nat):Int) by omega),dT (show ((t.size - (i+1):Nat):Int) < (t.size:Int) by omega),Int.toNat_natCast,dy hti,i64L y (by omega),← Int.natCast_add,i64L (c+y) (by omega),u8w,fdiv256] at hr
    rw [hr,hx0]
    unfold sh_radd hp_radd
    rw [List.length_set]
    rfl
   ·have hy0:=ny (by omega)
    rw [dF (show ¬ ((i+1:Nat):Int)≤t.size by omega),u8w,fdiv256] at hr
    rw [hr,hx0,hy0]
    unfold sh_radd hp_radd
    rw [List.length_set]
    rfl
theorem loop_radd (s t:ByteArray) (n:Int) (zs:List Int) (c i:Int) (h:pre_radd s t n zs c i):∃ r:List Int×Int×Int,LoopTo Tryz.prog (lb 100 p_radd) (sh_radd s t n zs c i) (hp_radd s t n zs c i) (.exit 0) (sh_radd s t n r.1 r.2.1 r.2.2) (hp_radd s t n r.1 r.2.1 r.2.2)∧post_radd s t n zs c i r:=by
 obtain ⟨h1,h2,rfl,h4,rfl,rfl⟩:=h
 obtain ⟨r,k1,k2,k3⟩:=radd_go s t h1 h2 _ rfl (max s.size t.size+1) 0 0 zs (by omega) h4 (by omega) ⟨by rw [Nat.sub_zero,List.drop_of_length_le (by omega),vY_nil];simp [Nat.mod_one]⟩
 exact ⟨r,k1,k2,k3⟩
def told_radd (κ:ByteArray→ByteArray→Int→List Int→Int→Int→Bool) (φ:ByteArray→ByteArray→Int→List Int→Int→Int→List Int×Int×Int) (T:List AV) (H:Hp):Option (Bool×Ex×List AV×Hp):=
 match lget T 0,lget T 1,lget T 5,lget T 6,lget T 7,lget T 8,H with
 | .val (.string s), .val (.string t), .val (.int .i64 n), .sl false 5 0 0 m_zs, .val (.int .i64 c), .val (.int .i64 i), [.row (.ints .u8 zs) 5 .live]=>bif T.length==60 then some (decide (m_zs=zs.length)&&κ s t n zs c i, .exit 0,sh_radd s t n ((φ s t n zs c i).1) ((φ s t n zs c i).2.1) ((φ s t n zs c i).2.2),hp_radd s t n ((φ s t n zs c i).1) ((φ s t n zs c i).2.1) ((φ s t n zs c i).2.2)) else none
 | _,_,_,_,_,_,_=>none
abbrev KT_radd:Type:=ByteArray→ByteArray→Int→List Int→Int→Int→Bool
abbrev FT_radd:Type:=ByteArray→ByteArray→Int→List Int→Int→Int→List Int×Int×Int
def LL_radd (κ:KT_radd) (φ:FT_radd) (L:LTab):LTab:=addLn 0 100 p_radd [0,1,5,6,7,8] (told_radd κ φ) L
def phi_radd (s:ByteArray) (t:ByteArray) (n:Int) (zs:List Int) (c:Int) (i:Int):List Int×Int×Int:=Classical.epsilon fun ρ=>LoopTo Tryz.prog (lb 100 p_radd) (sh_radd s t n zs c i) (hp_radd s t n zs c i) (.exit 0) (sh_radd s t n (ρ.1) (ρ.2.1) (ρ.2.2)) (hp_radd s t n (ρ.1) (ρ.2.1) (ρ.2.2))∧post_radd s t n zs c i ρ
theorem phi_radd_spec (s:ByteArray) (t:ByteArray) (n:Int) (zs:List Int) (c:Int) (i:Int) (h:pre_radd s t n zs c i):LoopTo Tryz.prog (lb 100 p_radd) (sh_radd s t n zs c i) (hp_radd s t n zs c i) (.exit 0) (sh_radd s t n ((phi_radd s t n zs c i).1) ((phi_radd s t n zs c i).2.1) ((phi_radd s t n zs c i).2.2)) (hp_radd s t n ((phi_radd s t n zs c i).1) ((phi_radd s t n zs c i).2.1) ((phi_radd s t n zs c i).2.2))∧post_radd s t n zs c i (phi_radd s t n zs c i):=Classical.epsilon_spec (loop_radd s t n zs c i h)
def cond_radd (s:ByteArray) (t:ByteArray) (n:Int) (zs:List Int) (c:Int) (i:Int):Bool:= @decide (pre_radd s t n zs c i) (Classical.propDecidable _)
theorem cond_radd_eq (s:ByteArray) (t:ByteArray) (n:Int) (zs:List Int) (c:Int) (i:Int) (h:pre_radd s t n zs c i):cond_radd s t n zs c i=true:= @decide_eq_true _ (Classical.propDecidable _) h
theorem told_radd_ok (T:List AV) (H:Hp) (e:Ex) (T1:List AV) (H1:Hp) (h:told_radd cond_radd phi_radd T H=some (true,e,T1,H1)):V.Ends Tryz.prog false 0 0 (.loop (lb 100 p_radd)) T H e T1 H1:=by
 unfold told_radd at h
 split at h
 ·rename_i s t n m_zs c i zs h0 h1 h5 h6 h7 h8
  rw [Bool.cond_eq_ite] at h
  split at h
  ·rename_i hlen
   rw [beq_iff_eq] at hlen
   simp only [Option.some.injEq,Prod.mk.injEq,Bool.and_eq_true,decide_eq_true_eq] at h
   obtain ⟨⟨k1,k2⟩,rfl,rfl,rfl⟩:=h
   have kc:= @of_decide_eq_true _ (Classical.propDecidable _) k2
   refine Ends.pre (phi_radd_spec s t n zs c i kc).1.ends (fun α B w D ys hr=>slots_rel hlen (fun p hp y hy=> ?_) hr)
   simp only [List.mem_cons,List.not_mem_nil,or_false] at hp
   rcases hp with rfl | rfl | rfl | rfl | rfl | rfl
   ·rw [h0] at hy;exact hy
   ·rw [h1] at hy;exact hy
   ·rw [h5] at hy;exact hy
   ·rw [h6] at hy;rw [← k1];exact hy
   ·rw [h7] at hy;exact hy
   ·rw [h8] at hy;exact hy
  ·cases h
 ·cases h
theorem LL_radd_ok {L:LTab} (h:LOk Tryz.prog L):LOk Tryz.prog (LL_radd cond_radd phi_radd L):=h.add2n body_radd told_radd_ok
def ERa (S:Sg) (κ:KT_radd) (φ:FT_radd):Env:= ⟨addC 70 (tStrip S) noC,Kall,LL_radd κ φ noL⟩
theorem radd_call (S:Sg) (κ:KT_radd) (φ:FT_radd) (s t:ByteArray):letI q_3:=(mxI (↑s.size:Int) (↑t.size:Int));letI q_1:=(q_3+(1:Int));letI q_2:=(φ s t q_1 (List.replicate q_1.toNat (0:Int)) (0:Int) (1:Int));
  (callA Tryz.prog (ERa S κ φ) 10 10 100 [.val (.string s), .val (.string t)]=(bif inR IntKind.i64 q_1 then (bif decide ((0:Int)≤q_3+(1:Int))&&decide (q_3+(1:Int)≤q_3+(1:Int))&&decide ((1:Int)*q_1≤(281474976710656:Int))&&decide (q_3+(1:Int)≤(9223372036854775807:Int)) then (bif decide (q_1.toNat=(List.replicate q_1.toNat (0:Int)).length)&&κ s t q_1 (List.replicate q_1.toNat (0:Int)) (0:Int) (1:Int) then (bif decide ((0:Nat)+q_2.fst.length*(1:Nat)≤q_2.fst.length) then some (.val (.string (S.mg (S.vs (ofBytes (List.take (q_2.fst.length*(1:Nat)) (List.drop (0:Nat) q_2.fst))))))) else none) else none) else none) else none)):=by kernel_rfl
def tRAddM (S:Sg) (args:List AV):Option (Bool×AV):=match args with | [.val (.string s), .val (.string t)]=>some (S.ok s&&S.ok t, .val (.string (S.mg (S.vs s+S.vs t)))) | _=>none
theorem ok_size {s:ByteArray} (h:sg0.ok s=true):s.size≤8796093022208:=of_decide_eq_true h
theorem eRAddM:Entry Tryz.prog 100 (tRAddM sg0):=by
 refine entry_of (E:=ERa sg0 cond_radd phi_radd) (u:=10) (d:=10) ((meets_none _).add eRTrim) (LL_radd_ok LOk.none).ok mixed (by kernel_rfl) (fun args r h=> ?_)
 unfold tRAddM at h
 split at h
 ·rename_i s t
  simp only [Option.some.injEq,Prod.mk.injEq,Bool.and_eq_true] at h
  obtain ⟨⟨h1,h2⟩,rfl⟩:=h
  have z1:=ok_size h1
  have z2:=ok_size h2
  have e1:((max s.size t.size:Nat):Int)+1=((max s.size t.size+1:Nat):Int):=by omega
  have hp:pre_radd s t ((max s.size t.size+1:Nat):Int) (List.replicate (max s.size t.size+1) 0) 0 1:= ⟨z1,z2,rfl,by simp,rfl,rfl⟩
  obtain ⟨_,c1,c2⟩:=phi_radd_spec _ _ _ _ _ _ hp
  have hcall:=radd_call sg0 cond_radd phi_radd s t
  simp only [mxI_nat,e1,Int.toNat_natCast,List.length_replicate,eq_self,decide_true,Nat.mul_one,Nat.zero_add,List.drop_zero] at hcall
  rw [cond_radd_eq _ _ _ _ _ _ hp] at hcall
  generalize phi_radd s t ((max s.size t.size+1:Nat):Int) (List.replicate (max s.size t.size+1) 0) 0 1=q at*
  have e2:sg0.vs (ofBytes q.1)=sg0.vs s+sg0.vs t:=c2
  rw [i64L _ (by omega),dT (show (0:Int)≤((max s.size t.size+1:Nat):Int) by omega),dT (show ((max s.size t.size+1:Nat):Int)≤((max s.size t.size+1:Nat):Int) by omega),dT (show (1:Int)*((max s.size t.size+1:Nat):Int)≤281474976710656 by omega),dT (show ((max s.size t.size+1:Nat):Int)≤9223372036854775807 by omega),dT (show q.1.length≤q.1.length by omega),List.take_length,e2] at hcall
  exact hcall
 ·cases h
abbrev p_rsub:List Bool:= [false,true,false,true,true,true]
def sh_rsub (s:ByteArray) (t:ByteArray) (zs:List Int) (c:Int) (i:Int):List AV:=slots 55 [(0, .val (.string s)),(1, .val (.string t)),(5, .sl false 5 0 0 zs.length),(6, .val (.int .i64 c)),(7, .val (.int .i64 i))]
def hp_rsub (s:ByteArray) (t:ByteArray) (zs:List Int) (c:Int) (i:Int):Hp:= [.row (.ints .u8 zs) 5 .live]
theorem body_rsub:subC Tryz.prog 101 p_rsub=some (.loop (lb 101 p_rsub)):=by kernel_rfl
theorem code_rsub:subC Tryz.prog 101 (false :: p_rsub)=some (lb 101 p_rsub):=by kernel_rfl
theorem round_rsub (s:ByteArray) (t:ByteArray) (zs:List Int) (c:Int) (i:Int):letI q_1:=((0:Nat)+((↑s.size:Int) - i).toNat*(1:Nat));letI q_2:=(byteAt s ((↑s.size:Int) - i).toNat - c - byteAt t ((↑t.size:Int) - i).toNat+(256:Int));
  (roundA Tryz.prog EL0 101 [0,1,5,6,7] (lb 101 p_rsub) (false :: p_rsub) (sh_rsub s t zs c i) (hp_rsub s t zs c i)=(bif decide (i≤(↑s.size:Int)) then (bif inR IntKind.i64 ((↑s.size:Int) - i) then (bif decide ((0:Int)≤(↑s.size:Int) - i)&&decide ((↑s.size:Int) - i < (↑s.size:Int)) then (bif inR IntKind.i64 (byteAt s ((↑s.size:Int) - i).toNat) then (bif inR IntKind.i64 (byteAt s ((↑s.size:Int) - i).toNat - c) then (bif decide (i≤(↑t.size:Int)) then (bif inR IntKind.i64 ((↑t.size:Int) - i) then (bif decide ((0:Int)≤(↑t.size:Int) - i)&&decide ((↑t.size:Int) - i < (↑t.size:Int)) then (bif inR IntKind.i64 (byteAt t ((↑t.size:Int) - i).toNat) then (bif inR IntKind.i64 (byteAt s ((↑s.size:Int) - i).toNat - c - byteAt t ((↑t.size:Int) - i).toNat) then (bif decide (byteAt s ((↑s.size:Int) - i).toNat - c - byteAt t ((↑t.size:Int) - i).toNat < (0:Int)) then (bif inR IntKind.i64 q_2 then (bif inR IntKind.i64 ((↑s.size:Int) - i) then (bif decide ((0:Int)≤(↑s.size:Int) - i)&&decide ((↑s.size:Int) - i < (↑zs.length:Int)) then (bif decide ((0:Nat)+((↑s.size:Int) - i).toNat*(1:Nat) < zs.length) then (bif inR IntKind.i64 (i+(1:Int)) then some (.normal,slots 55 [(0,(.val (.string s))),(1,(.val (.string t))),(5,(.sl false 5 0 0 zs.length)),(6,(.val (.int .i64 1))),(7,(.val (.int .i64 (i+(1:Int)))))], [(.row (.ints .u8 (zs.set q_1 (IntKind.u8.wrap q_2))) 5 .live)]) else none) else none) else none) else none) else none) else (bif inR IntKind.i64 ((↑s.size:Int) - i) then (bif decide ((0:Int)≤(↑s.size:Int) - i)&&decide ((↑s.size:Int) - i < (↑zs.length:Int)) then (bif decide ((0:Nat)+((↑s.size:Int) - i).toNat*(1:Nat) < zs.length) then (bif inR IntKind.i64 (i+(1:Int)) then some (.normal,slots 55 [(0,(.val (.string s))),(1,(.val (.string t))),(5,(.sl false 5 0 0 zs.length)),(6,(.val (.int .i64 0))),(7,(.val (.int .i64 (i+(1:Int)))))], [(.row (.ints .u8 (zs.set q_1 (IntKind.u8.wrap (byteAt s ((↑s.size:Int) - i).toNat - c - byteAt t ((↑t.size:Int) - i).toNat)))) 5 .live)]) else none) else none) else none) else none)) else none) else none) else none) else none) else (bif decide (byteAt s ((↑s.size:Int) - i).toNat - c < (0:Int)) then (bif inR IntKind.i64 (byteAt s ((↑s.size:Int) - i).toNat - c+(256:Int)) then (bif inR IntKind.i64 ((↑s.size:Int) - i) then (bif decide ((0:Int)≤(↑s.size:Int) - i)&&decide ((↑s.size:Int) - i < (↑zs.length:Int)) then (bif decide ((0:Nat)+((↑s.size:Int) - i).toNat*(1:Nat) < zs.length) then (bif inR IntKind.i64 (i+(1:Int)) then some (.normal,slots 55 [(0,(.val (.string s))),(1,(.val (.string t))),(5,(.sl false 5 0 0 zs.length)),(6,(.val (.int .i64 1))),(7,(.val (.int .i64 (i+(1:Int)))))], [(.row (.ints .u8 (zs.set q_1 (IntKind.u8.wrap (byteAt s ((↑s.size:Int) - i).toNat - c+(256:Int))))) 5 .live)]) else none) else none) else none) else none) else none) else (bif inR IntKind.i64 ((↑s.size:Int) - i) then (bif decide ((0:Int)≤(↑s.size:Int) - i)&&decide ((↑s.size:Int) - i < (↑zs.length:Int)) then (bif decide ((0:Nat)+((↑s.size:Int) - i).toNat*(1:Nat) < zs.length) then (bif inR IntKind.i64 (i+(1:Int)) then some (.normal,slots 55 [(0,(.val (.string s))),(1,(.val (.string t))),(5,(.sl false 5 0 0 zs.length)),(6,(.val (.int .i64 0))),(7,(.val (.int .i64 (i+(1:Int)))))], [(.row (.ints .u8 (zs.set q_1 (IntKind.u8.wrap (byteAt s ((↑s.size:Int) - i).toNat - c)))) 5 .live)]) else none) else none) else none) else none))) else none) else none) else none) else none) else some ((.exit 0),slots 55 [(0,(.val (.string s))),(1,(.val (.string t))),(5,(.sl false 5 0 0 zs.length)),(6,(.val (.int .i64 c))),(7,(.val (.int .i64 i)))], [(.row (.ints .u8 zs) 5 .live)]))):=by kernel_rfl
theorem step_rsub {s:ByteArray} {t:ByteArray} {zs:List Int} {c:Int} {i:Int} {e:Ex} {T:List AV} {H:Hp} (h:roundA Tryz.prog EL0 101 [0,1,5,6,7] (lb 101 p_rsub) (false :: p_rsub) (sh_rsub s t zs c i) (hp_rsub s t zs c i)=some (e,T,H)):V.Ends Tryz.prog false 0 0 (lb 101 p_rsub) (sh_rsub s t zs c i) (hp_rsub s t zs c i) e T H:=
 round_ends (meets_none _) loops_none mixed code_rsub h
def pre_rsub (s t:ByteArray) (zs:List Int) (c i:Int):Prop:=s.size≤8796093022208∧t.size≤8796093022208∧vS t≤vS s∧zs.length=s.size∧c=0∧i=1
def post_rsub (s t:ByteArray) (zs:List Int) (c i:Int) (r:List Int×Int×Int):Prop:=r.1.length=s.size∧vY r.1=vS s - vS t
theorem rsub_go (s t:ByteArray) (hs:s.size≤8796093022208) (ht:t.size≤8796093022208) (hle:vS t≤vS s) (d:Nat):∀ (i c:Nat) (zs:List Int),i+d=s.size→zs.length=s.size→c≤1→
  Aside0 (vY (zs.drop (s.size - i))+vS t % 256 ^ i=vS s % 256 ^ i+256 ^ i*c)→
  ∃ r:List Int×Int×Int,LoopTo Tryz.prog (lb 101 p_rsub) (sh_rsub s t zs c ((i+1:Nat):Int)) (hp_rsub s t zs c ((i+1:Nat):Int)) (.exit 0) (sh_rsub s t r.1 r.2.1 r.2.2) (hp_rsub s t r.1 r.2.1 r.2.2)∧r.1.length=s.size∧vY r.1=vS s - vS t:=by
 induction d with
 | zero=>
  intro i c zs hi hl hc hv
  have hi':i=s.size:=by omega
  refine ⟨(zs,(c:Int),((i+1:Nat):Int)), .last (step_rsub ?_) (by intro h;cases h),hl, ?_⟩
  ·rw [round_rsub,dF (show ¬ (((i+1:Nat):Int)≤s.size) by omega)]
   rfl
  ·have hv:=hv.out
   have h1:=vS_lt s
   rw [hi',Nat.sub_self,List.drop_zero,Nat.mod_eq_of_lt h1,Nat.mod_eq_of_lt (show vS t < 256 ^ s.size by omega)] at hv
   have h2:vY zs < 256 ^ s.size:=by
    have:=vB_lt (zs.map fun z=>UInt8.ofNat z.toNat)
    rw [List.length_map,hl] at this
    exact this
   show vY zs=_
   rcases (show c=0∨c=1 by omega) with h0 | h0
   ·rw [h0] at hv;omega
   ·rw [h0] at hv;omega
 | succ d ih=>
  intro i c zs hi hl hc HV
  have hin:i < s.size:=by omega
  have hj:s.size - (i+1) < zs.length:=by omega
  have go:∀ x y z b:Nat,x < 256→y < 256→x=vS s / 256 ^ i % 256→y=vS t / 256 ^ i % 256→z < 256→b≤1→z+y+c=x+256*b→
    roundA Tryz.prog EL0 101 [0,1,5,6,7] (lb 101 p_rsub) (false :: p_rsub) (sh_rsub s t zs c ((i+1:Nat):Int)) (hp_rsub s t zs c ((i+1:Nat):Int))=some (.normal,sh_rsub s t (zs.set (s.size - (i+1)) (z:Nat)) (b:Nat) ((i+1+1:Nat):Int),hp_rsub s t (zs.set (s.size - (i+1)) (z:Nat)) (b:Nat) ((i+1+1:Nat):Int))→
    ∃ r:List Int×Int×Int,LoopTo Tryz.prog (lb 101 p_rsub) (sh_rsub s t zs c ((i+1:Nat):Int)) (hp_rsub s t zs c ((i+1:Nat):Int)) (.exit 0) (sh_rsub s t r.1 r.2.1 r.2.2) (hp_rsub s t r.1 r.2.1 r.2.2)∧r.1.length=s.size∧vY r.1=vS s - vS t:=by
   intro x y z b hx hy ex ey hz hb hzb hr
   obtain ⟨r,h1,h2⟩:=ih (i+1) b (zs.set (s.size - (i+1)) (z:Nat)) (by omega) (by rw [List.length_set];exact hl) hb (by
    have hv:=HV.out
    constructor
    rw [vY_set _ _ _ hj hz,hl,show s.size - (s.size - (i+1)) - 1=i by omega,show s.size - (i+1)+1=s.size - i by omega,mod_succ,mod_succ,← ex,← ey,Nat.pow_succ]
    have h3:=congrArg (256 ^ i* ·) hzb
    simp only [Nat.mul_add] at h3
    rw [← Nat.mul_assoc] at h3
    rw [Nat.mul_comm z]
    omega)
   exact ⟨r, .more (step_rsub hr) h1,h2⟩
  have hr:=round_rsub s t zs c ((i+1:Nat):Int)
  have es:(s.size:Int) - ((i+1:Nat):Int)=((s.size - (i+1):Nat):Int):=by omega
  have et:i < t.size→(t.size:Int) - ((i+1:Nat):Int)=((t.size - (i+1):Nat):Int):=fun h=>by omega
  have e2:((i+1:Nat):Int)+1=((i+1+1:Nat):Int):=by omega
  have hdx:=Nat.mod_lt (vS s / 256 ^ i) (show 0 < 256 by decide)
  have hdy:=Nat.mod_lt (vS t / 256 ^ i) (show 0 < 256 by decide)
  have dx:=digit_at s i hin
  have dy:=digit_at t i
  have ny:=no_digit t i
  generalize vS s / 256 ^ i % 256=x at*
  generalize vS t / 256 ^ i % 256=y at*
  have q1:inR .i64 ((s.size - (i+1):Nat):Int)=true:=i64L _ (by omega)
  have q2:inR .i64 ((i+1+1:Nat):Int)=true:=i64L _ (by omega)
  rw [es,e2,q1,q2,dT (show ((i+1:Nat):Int)≤s.size by omega),dT (show (0:Int)≤((s.size - (i+1):Nat):Int) by omega),dT (show ((s.size - (i+1):Nat):Int) < (zs.length:Int) by omega),dT (show ((s.size - (i+1):Nat):Int) < (s.size:Int) by omega),Int.toNat_natCast,Nat.zero_add,Nat.mul_one,dT hj,dx,i64L x (by omega),i64T (show -9223372036854775808≤(x:Int) - c∧(x:Int) - c≤9223372036854775807 by omega)] at hr
  by_cases hti:i < t.size
  ·rw [dT (show ((i+1:Nat):Int)≤t.size by omega),et hti,i64L (t.size - (i+1)) (by omega),dT (show (0:Int)≤((t.size - (i+1):Nat):Int) by omega),dT (show ((t.size - (i+1):Nat):Int) < (t.size:Int) by omega),Int.toNat_natCast,dy hti,i64L y (by omega),i64T (show -9223372036854775808≤(x:Int) - c - y∧(x:Int) - c - y≤9223372036854775807 by omega)] at hr
   by_cases hlt:(x:Int) - c - y < 0
   ·have e3:(x:Int) - c - y+256=((x+256 - c - y:Nat):Int):=by omega
    rw [dT hlt,e3,i64L _ (by omega),u8w,Nat.mod_eq_of_lt (by omega)] at hr
    refine go x y (x+256 - c - y) 1 hdx hdy rfl rfl (by omega) (by omega) (by omega) ?_
    rw [hr]
    unfold sh_rsub hp_rsub
    rw [List.length_set]
    rfl
   ·have e3:(x:Int) - c - y=((x - c - y:Nat):Int):=by omega
    rw [dF hlt,e3,u8w,Nat.mod_eq_of_lt (by omega)] at hr
    refine go x y (x - c - y) 0 hdx hdy rfl rfl (by omega) (by omega) (by omega) ?_
    rw [hr]
    unfold sh_rsub hp_rsub
    rw [List.length_set]
    rfl
  ·have hy0:=ny (by omega)
   rw [dF (show ¬ ((i+1:Nat):Int)≤t.size by omega)] at hr
   by_cases hlt:(x:Int) - c < 0
   ·have e3:(x:Int) - c+256=((x+256 - c:Nat):Int):=by omega
    rw [dT hlt,e3,i64L _ (by omega),u8w,Nat.mod_eq_of_lt (by omega)] at hr
    refine go x y (x+256 - c) 1 hdx hdy rfl rfl (by omega) (by omega) (by omega) ?_
    rw [hr]
    unfold sh_rsub hp_rsub
    rw [List.length_set]
    rfl
   ·have e3:(x:Int) - c=((x - c:Nat):Int):=by omega
    rw [dF hlt,e3,u8w,Nat.mod_eq_of_lt (by omega)] at hr
    refine go x y (x - c) 0 hdx hdy rfl rfl (by omega) (by omega) (by omega) ?_
    rw [hr]
    unfold sh_rsub hp_rsub
    rw [List.length_set]
    rfl
theorem loop_rsub (s t:ByteArray) (zs:List Int) (c i:Int) (h:pre_rsub s t zs c i):∃ r:List Int×Int×Int,LoopTo Tryz.prog (lb 101 p_rsub) (sh_rsub s t zs c i) (hp_rsub s t zs c i) (.exit 0) (sh_rsub s t r.1 r.2.1 r.2.2) (hp_rsub s t r.1 r.2.1 r.2.2)∧post_rsub s t zs c i r:=by
 obtain ⟨h1,h2,h3,h4,rfl,rfl⟩:=h
 obtain ⟨r,k1,k2,k3⟩:=rsub_go s t h1 h2 h3 s.size 0 0 zs (by omega) h4 (by omega) ⟨by rw [Nat.sub_zero,List.drop_of_length_le (by omega),vY_nil];simp [Nat.mod_one]⟩
 exact ⟨r,k1,k2,k3⟩
def told_rsub (κ:ByteArray→ByteArray→List Int→Int→Int→Bool) (φ:ByteArray→ByteArray→List Int→Int→Int→List Int×Int×Int) (T:List AV) (H:Hp):Option (Bool×Ex×List AV×Hp):=
 match lget T 0,lget T 1,lget T 5,lget T 6,lget T 7,H with
 | .val (.string s), .val (.string t), .sl false 5 0 0 m_zs, .val (.int .i64 c), .val (.int .i64 i), [.row (.ints .u8 zs) 5 .live]=>bif T.length==55 then some (decide (m_zs=zs.length)&&κ s t zs c i, .exit 0,sh_rsub s t ((φ s t zs c i).1) ((φ s t zs c i).2.1) ((φ s t zs c i).2.2),hp_rsub s t ((φ s t zs c i).1) ((φ s t zs c i).2.1) ((φ s t zs c i).2.2)) else none
 | _,_,_,_,_,_=>none
abbrev KT_rsub:Type:=ByteArray→ByteArray→List Int→Int→Int→Bool
abbrev FT_rsub:Type:=ByteArray→ByteArray→List Int→Int→Int→List Int×Int×Int
def LL_rsub (κ:KT_rsub) (φ:FT_rsub) (L:LTab):LTab:=addLn 0 101 p_rsub [0,1,5,6,7] (told_rsub κ φ) L
def phi_rsub (s:ByteArray) (t:ByteArray) (zs:List Int) (c:Int) (i:Int):List Int×Int×Int:=Classical.epsilon fun ρ=>LoopTo Tryz.prog (lb 101 p_rsub) (sh_rsub s t zs c i) (hp_rsub s t zs c i) (.exit 0) (sh_rsub s t (ρ.1) (ρ.2.1) (ρ.2.2)) (hp_rsub s t (ρ.1) (ρ.2.1) (ρ.2.2))∧post_rsub s t zs c i ρ
theorem phi_rsub_spec (s:ByteArray) (t:ByteArray) (zs:List Int) (c:Int) (i:Int) (h:pre_rsub s t zs c i):LoopTo Tryz.prog (lb 101 p_rsub) (sh_rsub s t zs c i) (hp_rsub s t zs c i) (.exit 0) (sh_rsub s t ((phi_rsub s t zs c i).1) ((phi_rsub s t zs c i).2.1) ((phi_rsub s t zs c i).2.2)) (hp_rsub s t ((phi_rsub s t zs c i).1) ((phi_rsub s t zs c i).2.1) ((phi_rsub s t zs c i).2.2))∧post_rsub s t zs c i (phi_rsub s t zs c i):=Classical.epsilon_spec (loop_rsub s t zs c i h)
def cond_rsub (s:ByteArray) (t:ByteArray) (zs:List Int) (c:Int) (i:Int):Bool:= @decide (pre_rsub s t zs c i) (Classical.propDecidable _)
theorem cond_rsub_eq (s:ByteArray) (t:ByteArray) (zs:List Int) (c:Int) (i:Int) (h:pre_rsub s t zs c i):cond_rsub s t zs c i=true:= @decide_eq_true _ (Classical.propDecidable _) h
theorem told_rsub_ok (T:List AV) (H:Hp) (e:Ex) (T1:List AV) (H1:Hp) (h:told_rsub cond_rsub phi_rsub T H=some (true,e,T1,H1)):V.Ends Tryz.prog false 0 0 (.loop (lb 101 p_rsub)) T H e T1 H1:=by
 unfold told_rsub at h
 split at h
 ·rename_i s t m_zs c i zs h0 h1 h5 h6 h7
  rw [Bool.cond_eq_ite] at h
  split at h
  ·rename_i hlen
   rw [beq_iff_eq] at hlen
   simp only [Option.some.injEq,Prod.mk.injEq,Bool.and_eq_true,decide_eq_true_eq] at h
   obtain ⟨⟨k1,k2⟩,rfl,rfl,rfl⟩:=h
   have kc:= @of_decide_eq_true _ (Classical.propDecidable _) k2
   refine Ends.pre (phi_rsub_spec s t zs c i kc).1.ends (fun α B w D ys hr=>slots_rel hlen (fun p hp y hy=> ?_) hr)
   simp only [List.mem_cons,List.not_mem_nil,or_false] at hp
   rcases hp with rfl | rfl | rfl | rfl | rfl
   ·rw [h0] at hy;exact hy
   ·rw [h1] at hy;exact hy
   ·rw [h5] at hy;rw [← k1];exact hy
   ·rw [h6] at hy;exact hy
   ·rw [h7] at hy;exact hy
  ·cases h
 ·cases h
theorem LL_rsub_ok {L:LTab} (h:LOk Tryz.prog L):LOk Tryz.prog (LL_rsub cond_rsub phi_rsub L):=h.add2n body_rsub told_rsub_ok
def ERu (S:Sg) (κ:KT_rsub) (φ:FT_rsub):Env:= ⟨addC 70 (tStrip S) noC,Kall,LL_rsub κ φ noL⟩
theorem rsub_call (S:Sg) (κ:KT_rsub) (φ:FT_rsub) (s t:ByteArray):callA Tryz.prog (ERu S κ φ) 10 10 101 [.val (.string s), .val (.string t)]=
  (bif decide ((↑s.size:Int)≤(↑s.size:Int))&&decide ((1:Int)*(↑s.size:Int)≤(281474976710656:Int))&&decide ((↑s.size:Int)≤(9223372036854775807:Int)) then (bif decide ((↑s.size:Int).toNat=(List.replicate (↑s.size:Int).toNat (0:Int)).length)&&κ s t (List.replicate (↑s.size:Int).toNat (0:Int)) (0:Int) (1:Int) then (bif decide ((0:Nat)+(φ s t (List.replicate (↑s.size:Int).toNat (0:Int)) (0:Int) (1:Int)).fst.length*(1:Nat)≤(φ s t (List.replicate (↑s.size:Int).toNat (0:Int)) (0:Int) (1:Int)).fst.length) then some (.val (.string (S.mg (S.vs (ofBytes (List.take ((φ s t (List.replicate (↑s.size:Int).toNat (0:Int)) (0:Int) (1:Int)).fst.length*(1:Nat)) (List.drop (0:Nat) (φ s t (List.replicate (↑s.size:Int).toNat (0:Int)) (0:Int) (1:Int)).fst))))))) else none) else none) else none):=by kernel_rfl
def tRSubM (S:Sg) (args:List AV):Option (Bool×AV):=match args with | [.val (.string s), .val (.string t)]=>some (S.ok s&&S.ok t&&decide (S.vs t≤S.vs s), .val (.string (S.mg (S.vs s - S.vs t)))) | _=>none
theorem eRSubM:Entry Tryz.prog 101 (tRSubM sg0):=by
 refine entry_of (E:=ERu sg0 cond_rsub phi_rsub) (u:=10) (d:=10) ((meets_none _).add eRTrim) (LL_rsub_ok LOk.none).ok mixed (by kernel_rfl) (fun args r h=> ?_)
 unfold tRSubM at h
 split at h
 ·rename_i s t
  simp only [Option.some.injEq,Prod.mk.injEq,Bool.and_eq_true,decide_eq_true_eq] at h
  obtain ⟨⟨⟨h1,h2⟩,h3⟩,rfl⟩:=h
  have z1:=ok_size h1
  have z2:=ok_size h2
  have hp:pre_rsub s t (List.replicate s.size 0) 0 1:= ⟨z1,z2,h3,by simp,rfl,rfl⟩
  obtain ⟨_,c1,c2⟩:=phi_rsub_spec _ _ _ _ _ hp
  have hcall:=rsub_call sg0 cond_rsub phi_rsub s t
  simp only [Int.toNat_natCast,List.length_replicate,eq_self,decide_true,Nat.mul_one,Nat.zero_add,List.drop_zero] at hcall
  rw [cond_rsub_eq _ _ _ _ _ hp] at hcall
  generalize phi_rsub s t (List.replicate s.size 0) 0 1=q at*
  have e2:sg0.vs (ofBytes q.1)=sg0.vs s - sg0.vs t:=c2
  rw [dT (show (s.size:Int)≤(s.size:Int) by omega),dT (show (1:Int)*(s.size:Int)≤281474976710656 by omega),dT (show (s.size:Int)≤9223372036854775807 by omega),dT (show q.1.length≤q.1.length by omega),List.take_length,e2] at hcall
  exact hcall
 ·cases h
end
end Go.Proofs.YtibaendebbicjaaGreat.L
namespace Go.Proofs.YtibaendebbicjaaGreat.L
open Go Go.V Go.RowKit Go.Proofs.YtibaendebbicjaaGreat.Sp Go.Proofs.YtibaendebbicjaaGreat.F Go.Proofs.YtibaendebbicjaaGreatW.PrintWords
open Go.Proofs (Tryz.prog)
noncomputable section
theorem msnil (z:Int):strEq (sg0.ms z) (ByteArray.mk #[])=decide (z=0):=by
 show strEq (magOf z.natAbs) _=_
 rw [magOf_nil]
 exact decide_eq_decide.2 (by omega)
theorem ofBytes_mag {zs:List Int} {n:Nat} (h:zs.map (fun z=>UInt8.ofNat z.toNat)=toB n):ofBytes zs=magOf n:=by
 apply bytes_ext
 rw [magOf_data]
 exact h
def tRMag (S:Sg) (args:List AV):Option (Bool×AV):=match args with | [.val (.int .i64 z)]=>some (decide (0≤z)&&decide (z≤9223372036854775807), .val (.string (S.mg z.toNat))) | _=>none
theorem eRMag:Entry Tryz.prog 42 (tRMag sg0):=by
 refine entry_of (E:=ERm cond_rmag phi_rmag) (u:=10) (d:=10) (meets_none _) (LL_rmag_ok LOk.none).ok mixed (by kernel_rfl) (fun args r h=> ?_)
 unfold tRMag at h
 split at h
 ·rename_i z
  simp only [Option.some.injEq,Prod.mk.injEq,Bool.and_eq_true,decide_eq_true_eq] at h
  obtain ⟨⟨h1,h2⟩,rfl⟩:=h
  obtain ⟨n,rfl⟩:=Int.eq_ofNat_of_zero_le h1
  rw [Int.toNat_natCast]
  have hcall:=rmag_call cond_rmag phi_rmag (n:Int)
  by_cases h3:n < 256
  ·rw [dT (show (n:Int) < 256 by omega)] at hcall
   by_cases h0:n=0
   ·subst h0
    rw [dT (show ((0:Nat):Int)=0 from rfl)] at hcall
    rw [hcall]
    show _=some (AV.val (.string (magOf 0)))
    unfold magOf
    rw [toB_zero]
    rfl
   ·rw [dF (show ¬ (n:Int)=0 by omega)] at hcall
    rw [hcall]
    show some (AV.val (.string (ofBytes [IntKind.u8.wrap (n:Int)])))=some (AV.val (.string (magOf n)))
    rw [ofBytes_mag (n:=n)]
    rw [toB_pos h0,Nat.div_eq_of_lt h3,toB_zero,List.nil_append,u8w,Nat.mod_eq_of_lt h3]
    rfl
  ·have hp:pre_rmag (n:Int) 8 [0,0,0,0,0,0,0,0]:= ⟨h1,h2,rfl,rfl⟩
   obtain ⟨_,k,e1,e2,e3,e4⟩:=phi_rmag_spec _ _ _ hp
   rw [dF (show ¬ (n:Int) < 256 by omega),cond_rmag_eq _ _ _ hp] at hcall
   generalize phi_rmag (n:Int) 8 [0,0,0,0,0,0,0,0]=r at*
   rw [e1,e3,dT (show 8≤8 by omega),dT (show (0:Int)≤(k:Int) by omega),dT (show (k:Int)≤8 by omega),Int.toNat_natCast,dT (show 0+k*1+(8 - k)*1≤8 by omega)] at hcall
   rw [hcall]
   show some (AV.val (.string (ofBytes _)))=some (AV.val (.string (magOf n)))
   rw [ofBytes_mag (n:=n)]
   rw [Nat.zero_add,Nat.mul_one,Nat.mul_one,List.take_of_length_le (by rw [List.length_drop];omega)]
   exact e4
 ·cases h
theorem rof2_call (S:Sg) (z:Int):callA Tryz.prog ⟨addC 42 (tRMag S) noC,Kall,noL⟩ 10 10 19 [.val (.int .i64 z)]=
  (bif decide ((0:Int)≤z) then (bif decide ((0:Int)≤z)&&decide (z≤(9223372036854775807:Int)) then some (.agg [(.val (.bool false)),(.val (.string (S.mg z.toNat)))]) else none) else (bif decide (z=IntKind.i64.wrap ((0:Int) - z)) then some (.agg [(.val (.bool true)),(.val (.string (ByteArray.mk #[(128:UInt8),(0:UInt8),(0:UInt8),(0:UInt8),(0:UInt8),(0:UInt8),(0:UInt8),(0:UInt8)])))]) else (bif decide ((0:Int)≤IntKind.i64.wrap ((0:Int) - z))&&decide (IntKind.i64.wrap ((0:Int) - z)≤(9223372036854775807:Int)) then some (.agg [(.val (.bool true)),(.val (.string (S.mg (IntKind.i64.wrap ((0:Int) - z)).toNat)))]) else none))):=by kernel_rfl
theorem min_mag:ByteArray.mk #[(128:UInt8),(0:UInt8),(0:UInt8),(0:UInt8),(0:UInt8),(0:UInt8),(0:UInt8),(0:UInt8)]=magOf 9223372036854775808:=
 (magOf_of_lead (ByteArray.mk #[(128:UInt8),(0:UInt8),(0:UInt8),(0:UInt8),(0:UInt8),(0:UInt8),(0:UInt8),(0:UInt8)]) (by show ¬ (128:UInt8)=0;decide)).symm
theorem int_neg {z:Int} (h:z < 0):sg0.int z= .agg [.val (.bool true), .val (.string (sg0.mg z.natAbs))]:=by
 unfold Sg.int
 rw [ng_eq,decide_eq_true h];rfl
theorem int_nn {z:Int} (h:0≤z):sg0.int z= .agg [.val (.bool false), .val (.string (sg0.mg z.natAbs))]:=by
 unfold Sg.int
 rw [ng_eq,decide_eq_false (by omega)];rfl
theorem eROf:Entry Tryz.prog 19 (tOf sg0):=by
 refine entry_of (E:= ⟨addC 42 (tRMag sg0) noC,Kall,noL⟩) (u:=10) (d:=10) ((meets_none _).add eRMag) loops_none mixed (by kernel_rfl) (fun args r h=> ?_)
 unfold tOf at h
 split at h
 ·rename_i z
  simp only [Option.some.injEq,Prod.mk.injEq] at h
  obtain ⟨h1,rfl⟩:=h
  unfold inI at h1
  simp only [Bool.and_eq_true,decide_eq_true_eq] at h1
  have hcall:=rof2_call sg0 z
  by_cases h0:0≤z
  ·rw [dT h0,dT h1.2] at hcall
   rw [hcall,int_nn h0,show z.toNat=z.natAbs by omega]
   rfl
  ·rw [dF h0] at hcall
   rw [int_neg (by omega)]
   by_cases h2:z= -9223372036854775808
   ·subst h2
    rw [dT (show (-9223372036854775808:Int)=IntKind.i64.wrap (0 - -9223372036854775808) by rw [IntKind.wrap_i64];decide)] at hcall
    rw [hcall,min_mag]
    rfl
   ·have hw:IntKind.i64.wrap (0 - z)= -z:=by rw [IntKind.wrap_i64];omega
    rw [hw,dF (show ¬ z= -z by omega),dT (show 0≤ -z by omega),dT (show -z≤9223372036854775807 by omega)] at hcall
    rw [hcall,show (-z).toNat=z.natAbs by omega]
    rfl
 ·cases h
theorem ms_neg (z:Int):sg0.ms (-z)=sg0.ms z:=by
 show magOf (-z).natAbs=magOf z.natAbs
 rw [Int.natAbs_neg]
theorem eRNeg:Entry Tryz.prog 73 (tNeg sg0):=by
 refine entry_of (E:= ⟨addC 41 (tCanon sg0) noC,Kall,noL⟩) (u:=10) (d:=10) ((meets_none _).add eCanon) loops_none mixed (by kernel_rfl) (fun args r h=> ?_)
 unfold tNeg at h
 split at h
 ·rename_i b s
  simp only [Option.some.injEq,Prod.mk.injEq] at h
  obtain ⟨h1,rfl⟩:=h
  have hcall:=rneg_call sg0 b s
  generalize sg0.val b s=z at*
  rw [msnil,ng_eq] at hcall
  rw [hcall]
  unfold Sg.int
  rw [ms_neg,ng_eq]
  by_cases h0:z < 0
  ·rw [dT h0,dF (show ¬ -z < 0 by omega)];rfl
  ·rw [dF h0]
   by_cases h2:z=0
   ·rw [dT h2,dF (show ¬ -z < 0 by omega)];rfl
   ·rw [dF h2,dT (show -z < 0 by omega)];rfl
 ·cases h
end
end Go.Proofs.YtibaendebbicjaaGreat.L
namespace Go.Proofs.YtibaendebbicjaaGreat.L
open Go Go.V Go.RowKit Go.Proofs.YtibaendebbicjaaGreat.Sp Go.Proofs.YtibaendebbicjaaGreat.F Go.Proofs.YtibaendebbicjaaGreatW.PrintWords
open Go.Proofs (Tryz.prog)
noncomputable section
theorem less_val:∀ (l m:List UInt8),l.length=m.length→(Op.bytesLess l m=true↔vB l < vB m)
 | [], [],_=>by simp [Op.bytesLess]
 | [],_ :: _,h=>by simp at h
 | _ :: _, [],h=>by simp at h
 | a :: x,b :: y,h=>by
  have hl:x.length=y.length:=by simpa using h
  have ih:=less_val x y hl
  have hx:=vB_lt x
  have hy:=vB_lt y
  rw [vB_cons,vB_cons,hl]
  rw [hl] at hx
  unfold Op.bytesLess
  rw [Bool.or_eq_true,Bool.and_eq_true,decide_eq_true_eq,beq_iff_eq,ih]
  have hab:a < b↔a.toNat < b.toNat:=UInt8.lt_iff_toNat_lt
  have hab2:a=b↔a.toNat=b.toNat:= ⟨fun h=>h ▸ rfl,fun h=>UInt8.toNat_inj.1 h⟩
  rw [hab,hab2]
  generalize 256 ^ y.length=B at*
  generalize a.toNat=p at*
  generalize b.toNat=q at*
  constructor
  ·rintro (h1 | ⟨h1,h2⟩)
   ·have:=Nat.mul_le_mul_right B (show p+1≤q by omega)
    rw [Nat.add_mul] at this
    omega
   ·subst h1;omega
  ·intro h1
   rcases Nat.lt_trichotomy p q with h2 | h2 | h2
   ·exact Or.inl h2
   ·subst h2;exact Or.inr ⟨rfl,by omega⟩
   ·have:=Nat.mul_le_mul_right B (show q+1≤p by omega)
    rw [Nat.add_mul] at this
    omega
def tRCmpM (S:Sg) (args:List AV):Option (Bool×AV):=match args with | [.val (.string s), .val (.string t)]=>some (strEq s (S.mg (S.vs s))&&strEq t (S.mg (S.vs t)), .val (.int .i64 (S.cmp (S.vs s) (S.vs t)))) | _=>none
theorem lt_of_size {n m:Nat} (h:(magOf n).size < (magOf m).size):n < m:=by
 rw [size_magOf,size_magOf] at h
 rcases Nat.lt_or_ge n m with h1 | h1
 ·exact h1
 ·have:=bs_mono h1
  unfold bs at this
  omega
theorem eRCmpM:Entry Tryz.prog 71 (tRCmpM sg0):=by
 refine entry_of (E:=E000) (u:=10) (d:=10) (meets_none _) loops_none mixed (by kernel_rfl) (fun args r h=> ?_)
 unfold tRCmpM at h
 split at h
 ·rename_i s t
  simp only [Option.some.injEq,Prod.mk.injEq,Bool.and_eq_true] at h
  obtain ⟨⟨h1,h2⟩,rfl⟩:=h
  rw [strEq_iff] at h1 h2
  have h1:s=magOf (vS s):=of_decide_eq_true h1
  have h2:t=magOf (vS t):=of_decide_eq_true h2
  have hcall:=rcmpmag_call s t
  show _=some (AV.val (.int .i64 (cmpN (vS s) (vS t))))
  rw [hcall]
  generalize vS s=n at*
  generalize vS t=m at*
  subst h1 h2
  by_cases h3:((magOf n).size:Int)=((magOf m).size:Int)
  ·rw [dT h3]
   have hlen:(toB n).length=(toB m).length:=by rw [← size_magOf,← size_magOf];omega
   have hs:V.strLt (magOf n) (magOf m)=decide (n < m):=by
    rw [Bool.eq_iff_iff]
    show Op.bytesLess (magOf n).data.toList (magOf m).data.toList=true↔_
    rw [magOf_data,magOf_data,less_val _ _ hlen,vB_toB,vB_toB,decide_eq_true_eq]
   have he:strEq (magOf n) (magOf m)=decide (n=m):=by
    rw [strEq_iff]
    refine decide_eq_decide.2 ⟨fun h=> ?_,fun h=>h ▸ rfl⟩
    have:=congrArg vS h
    rw [vS_magOf,vS_magOf] at this
    exact this
   rw [hs,he]
   unfold cmpN
   by_cases h4:n < m
   ·rw [dT h4,if_pos h4];rfl
   ·rw [dF h4,if_neg h4]
    by_cases h5:n=m
    ·rw [dT h5,if_neg (by omega)];rfl
    ·rw [dF h5,if_pos (by omega)];rfl
  ·rw [dF h3]
   unfold cmpN
   by_cases h4:((magOf n).size:Int) < ((magOf m).size:Int)
   ·rw [dT h4,if_pos (lt_of_size (by omega))];rfl
   ·rw [dF h4]
    have h5:m < n:=lt_of_size (by omega)
    rw [if_neg (by omega),if_pos h5];rfl
 ·cases h
def CRC (S:Sg):FuncId→List AV→Option (Bool×AV):=addC 41 (tCanon S) (addC 71 (tRCmpM S) noC)
def CRA (S:Sg):FuncId→List AV→Option (Bool×AV):=addC 41 (tCanon S) (addC 71 (tRCmpM S) (addC 100 (tRAddM S) (addC 101 (tRSubM S) (addC 99 (tRValue S) (addC 19 (tOf S) noC)))))
theorem rcmp_call (S:Sg) (b c:Bool) (s t:ByteArray):callA Tryz.prog ⟨CRC S,Kall,noL⟩ 10 10 43 [.agg [.val (.bool b), .val (.string s)], .agg [.val (.bool c), .val (.string t)]]=
  (bif bif true then !S.ng (S.val b s)==S.ng (S.val c t) else S.ng (S.val b s)==S.ng (S.val c t) then (bif S.ng (S.val b s) then some (.val (.int .i64 (-1))) else some (.val (.int .i64 1))) else (bif S.ng (S.val b s) then (bif strEq (S.ms (S.val c t)) (S.mg (S.vs (S.ms (S.val c t))))&&strEq (S.ms (S.val b s)) (S.mg (S.vs (S.ms (S.val b s)))) then some (.val (.int .i64 (S.cmp (S.vs (S.ms (S.val c t))) (S.vs (S.ms (S.val b s)))))) else none) else (bif strEq (S.ms (S.val b s)) (S.mg (S.vs (S.ms (S.val b s))))&&strEq (S.ms (S.val c t)) (S.mg (S.vs (S.ms (S.val c t)))) then some (.val (.int .i64 (S.cmp (S.vs (S.ms (S.val b s))) (S.vs (S.ms (S.val c t)))))) else none))):=by kernel_rfl
theorem raddI_call (S:Sg) (b c:Bool) (s t:ByteArray):letI q_1:Option AV:=(bif bif false then !S.ng (S.val b s)==S.ng (S.val c t) else S.ng (S.val b s)==S.ng (S.val c t) then (bif S.ok (S.ms (S.val b s))&&S.ok (S.ms (S.val c t)) then some (.agg [(.val (.bool (S.ng (S.val b s)))),(.val (.string (S.mg (S.vs (S.ms (S.val b s))+S.vs (S.ms (S.val c t))))))]) else none) else (bif strEq (S.ms (S.val b s)) (S.mg (S.vs (S.ms (S.val b s))))&&strEq (S.ms (S.val c t)) (S.mg (S.vs (S.ms (S.val c t)))) then (bif decide (S.cmp (S.vs (S.ms (S.val b s))) (S.vs (S.ms (S.val c t)))=(0:Int)) then some (.agg [(.val (.bool false)),(.val (.string (ByteArray.mk #[])))]) else (bif decide ((0:Int) < S.cmp (S.vs (S.ms (S.val b s))) (S.vs (S.ms (S.val c t)))) then (bif S.ok (S.ms (S.val b s))&&S.ok (S.ms (S.val c t))&&decide (S.vs (S.ms (S.val c t))≤S.vs (S.ms (S.val b s))) then some (.agg [(.val (.bool (S.ng (S.val b s)))),(.val (.string (S.mg (S.vs (S.ms (S.val b s)) - S.vs (S.ms (S.val c t))))))]) else none) else (bif S.ok (S.ms (S.val c t))&&S.ok (S.ms (S.val b s))&&decide (S.vs (S.ms (S.val b s))≤S.vs (S.ms (S.val c t))) then some (.agg [(.val (.bool (S.ng (S.val c t)))),(.val (.string (S.mg (S.vs (S.ms (S.val c t)) - S.vs (S.ms (S.val b s))))))]) else none))) else none));letI q_2:=(S.val (S.ng (S.val b s)) (S.ms (S.val b s))+S.val (S.ng (S.val c t)) (S.ms (S.val c t)));
  (callA Tryz.prog ⟨CRA S,Kall,noL⟩ 10 10 72 [.agg [.val (.bool b), .val (.string s)], .agg [.val (.bool c), .val (.string t)]]=(bif decide ((↑(S.ms (S.val b s)).size:Int) < (8:Int)) then (bif decide ((↑(S.ms (S.val c t)).size:Int) < (8:Int)) then (bif decide ((S.ms (S.val b s)).size≤(8:Nat))&&decide (S.vs (S.ms (S.val b s)) < (9223372036854775808:Nat)) then (bif decide ((S.ms (S.val c t)).size≤(8:Nat))&&decide (S.vs (S.ms (S.val c t)) < (9223372036854775808:Nat)) then (bif inR IntKind.i64 q_2 then (bif inI q_2 then some (.agg [(.val (.bool (S.ng q_2))),(.val (.string (S.ms q_2)))]) else none) else none) else none) else none) else q_1) else q_1)):=by kernel_rfl
theorem rsubI_call (S:Sg) (b c:Bool) (s t:ByteArray):callA Tryz.prog ⟨addC 72 (tAdd S) (addC 73 (tNeg S) noC),Kall,noL⟩ 10 10 104 [.agg [.val (.bool b), .val (.string s)], .agg [.val (.bool c), .val (.string t)]]=
  (bif S.ok t then (bif S.ok s&&S.ok (S.ms (-S.val c t)) then some (.agg [(.val (.bool (S.ng (S.val b s+S.val (S.ng (-S.val c t)) (S.ms (-S.val c t)))))),(.val (.string (S.ms (S.val b s+S.val (S.ng (-S.val c t)) (S.ms (-S.val c t))))))]) else none) else none):=by kernel_rfl
theorem canM (z:Int):strEq (sg0.ms z) (sg0.mg z.natAbs)=true:=strEq_self _
theorem ng_beq {x y:Int} (h:x < 0↔y < 0):(sg0.ng x==sg0.ng y)=true:=by
 rw [ng_eq,ng_eq,decide_eq_decide.2 h,beq_self_eq_true]
theorem ng_bne {x y:Int} (h:¬ (x < 0↔y < 0)):(sg0.ng x==sg0.ng y)=false:=by
 rw [ng_eq,ng_eq]
 by_cases hp:x < 0 <;> by_cases hq:y < 0
 ·exact absurd ⟨fun _=>hq,fun _=>hp⟩ h
 ·rw [dT hp,dF hq];rfl
 ·rw [dF hp,dT hq];rfl
 ·exact absurd ⟨fun k=>absurd k hp,fun k=>absurd k hq⟩ h
theorem int_eq {z:Int} {b:Bool} {n:Nat} (hb:b=decide (z < 0)) (hn:n=z.natAbs):AV.agg [.val (.bool b), .val (.string (sg0.mg n))]=sg0.int z:=by
 unfold Sg.int
 rw [ng_eq,hb,hn];rfl
theorem ng_dec {x z:Int} (h:x < 0↔z < 0):sg0.ng x=decide (z < 0):=by rw [ng_eq];exact decide_eq_decide.2 h
theorem cmpN_eq (a b:Nat):sg0.cmp a b=0↔a=b:=by
 show cmpN a b=0↔_
 unfold cmpN
 split <;> (try split) <;> omega
theorem cmpN_gt (a b:Nat):0 < sg0.cmp a b↔b < a:=by
 show 0 < cmpN a b↔_
 unfold cmpN
 split <;> (try split) <;> omega
theorem eRCompare:Entry Tryz.prog 43 (tCompare sg0):=by
 refine entry_of (E:= ⟨CRC sg0,Kall,noL⟩) (u:=10) (d:=10) (((meets_none _).add eRCmpM).add eCanon) loops_none mixed (by kernel_rfl) (fun args r h=> ?_)
 unfold tCompare at h
 split at h
 ·rename_i b s c t
  simp only [Option.some.injEq,Prod.mk.injEq] at h
  obtain ⟨h1,rfl⟩:=h
  have hcall:=rcmp_call sg0 b c s t
  generalize sg0.val b s=x at*
  generalize sg0.val c t=y at*
  simp only [vs_ms,canM] at hcall
  rw [hcall]
  by_cases hxy:x < 0↔y < 0
  ·rw [ng_beq hxy]
   by_cases h0:x < 0
   ·rw [ng_eq x,dT h0]
    refine congrArg (fun z=>some (AV.val (.int .i64 z))) ?_
    show cmpN y.natAbs x.natAbs=cmpZ x y
    unfold cmpN cmpZ
    split <;> split <;> (try split) <;> (try split) <;> omega
   ·rw [ng_eq x,dF h0]
    refine congrArg (fun z=>some (AV.val (.int .i64 z))) ?_
    show cmpN x.natAbs y.natAbs=cmpZ x y
    unfold cmpN cmpZ
    split <;> split <;> (try split) <;> (try split) <;> omega
  ·rw [ng_bne hxy]
   by_cases h0:x < 0
   ·rw [ng_eq x,dT h0]
    refine congrArg (fun z=>some (AV.val (.int .i64 z))) ?_
    show -1=cmpZ x y
    unfold cmpZ
    split <;> (try split) <;> omega
   ·rw [ng_eq x,dF h0]
    refine congrArg (fun z=>some (AV.val (.int .i64 z))) ?_
    show 1=cmpZ x y
    unfold cmpZ
    split <;> (try split) <;> omega
 ·cases h
theorem small7 {n:Nat} (h:bs n < 8):n < 72057594037927936:=
 Nat.lt_of_lt_of_le (bs_lt n) (show 256 ^ bs n≤256 ^ 7 from Nat.pow_le_pow_right (by decide) (by omega))
theorem CRA_ok:Meets Tryz.prog (CRA sg0):=((((((meets_none _).add eROf).add eRValue).add eRSubM).add eRAddM).add eRCmpM).add eCanon
theorem eRAdd:Entry Tryz.prog 72 (tAdd sg0):=by
 refine entry_of (E:= ⟨CRA sg0,Kall,noL⟩) (u:=10) (d:=10) CRA_ok loops_none mixed (by kernel_rfl) (fun args r h=> ?_)
 unfold tAdd at h
 split at h
 ·rename_i b s c t
  simp only [Option.some.injEq,Prod.mk.injEq,Bool.and_eq_true] at h
  obtain ⟨⟨h1,h2⟩,rfl⟩:=h
  have hcall:=raddI_call sg0 b c s t
  have bx:=Nat.le_trans (bs_val b s) (ok_size h1)
  have by_:=Nat.le_trans (bs_val c t) (ok_size h2)
  generalize sg0.val b s=x at*
  generalize sg0.val c t=y at*
  simp only [vs_ms,canM,size_ms,val_ms] at hcall
  rw [ok_ms bx,ok_ms by_] at hcall
  rw [hcall]
  clear hcall
  by_cases hsm:(bs x.natAbs:Int) < 8∧(bs y.natAbs:Int) < 8
  ·obtain ⟨g1,g2⟩:=hsm
   have k1:=small7 (show bs x.natAbs < 8 by omega)
   have k2:=small7 (show bs y.natAbs < 8 by omega)
   rw [dT g1,dT g2,dT (show bs x.natAbs≤8 by omega),dT (show bs y.natAbs≤8 by omega),dT (show x.natAbs < 9223372036854775808 by omega),dT (show y.natAbs < 9223372036854775808 by omega),i64T (show -9223372036854775808≤x+y∧x+y≤9223372036854775807 by omega)]
   unfold inI
   rw [dT (show -9223372036854775808≤x+y by omega),dT (show x+y≤9223372036854775807 by omega)]
   rfl
  ·have h':¬ ((bs x.natAbs:Int) < 8)∨((bs x.natAbs:Int) < 8∧¬ (bs y.natAbs:Int) < 8):=by omega
   rcases h' with h8 | ⟨h8,h9⟩
   ·rw [dF h8]
    by_cases hxy:x < 0↔y < 0
    ·rw [ng_beq hxy]
     exact congrArg some (int_eq (ng_dec (by omega)) (by omega))
    ·rw [ng_bne hxy]
     by_cases hc:x.natAbs=y.natAbs
     ·rw [dT ((cmpN_eq _ _).2 hc),show x+y=0 by omega]
      unfold Sg.int
      rw [ms_zero]
      rfl
     ·rw [dF (fun h=>hc ((cmpN_eq _ _).1 h))]
      by_cases hg:y.natAbs < x.natAbs
      ·rw [dT ((cmpN_gt _ _).2 hg),dT (show y.natAbs≤x.natAbs by omega)]
       exact congrArg some (int_eq (ng_dec (by omega)) (by omega))
      ·rw [dF (fun h=>hg ((cmpN_gt _ _).1 h)),dT (show x.natAbs≤y.natAbs by omega)]
       exact congrArg some (int_eq (ng_dec (by omega)) (by omega))
   ·rw [dT h8,dF h9]
    by_cases hxy:x < 0↔y < 0
    ·rw [ng_beq hxy]
     exact congrArg some (int_eq (ng_dec (by omega)) (by omega))
    ·rw [ng_bne hxy]
     by_cases hc:x.natAbs=y.natAbs
     ·rw [dT ((cmpN_eq _ _).2 hc),show x+y=0 by omega]
      unfold Sg.int
      rw [ms_zero]
      rfl
     ·rw [dF (fun h=>hc ((cmpN_eq _ _).1 h))]
      by_cases hg:y.natAbs < x.natAbs
      ·rw [dT ((cmpN_gt _ _).2 hg),dT (show y.natAbs≤x.natAbs by omega)]
       exact congrArg some (int_eq (ng_dec (by omega)) (by omega))
      ·rw [dF (fun h=>hg ((cmpN_gt _ _).1 h)),dT (show x.natAbs≤y.natAbs by omega)]
       exact congrArg some (int_eq (ng_dec (by omega)) (by omega))
 ·cases h
theorem eRSub:Entry Tryz.prog 104 (tSub sg0):=by
 refine entry_of (E:= ⟨addC 72 (tAdd sg0) (addC 73 (tNeg sg0) noC),Kall,noL⟩) (u:=10) (d:=10) (((meets_none _).add eRNeg).add eRAdd) loops_none mixed (by kernel_rfl) (fun args r h=> ?_)
 unfold tSub at h
 split at h
 ·rename_i b s c t
  simp only [Option.some.injEq,Prod.mk.injEq,Bool.and_eq_true] at h
  obtain ⟨⟨h1,h2⟩,rfl⟩:=h
  have hcall:=rsubI_call sg0 b c s t
  have by_:=Nat.le_trans (bs_val c t) (ok_size h2)
  simp only [val_ms] at hcall
  rw [h1,h2,ok_ms (z:= -sg0.val c t) (by rw [Int.natAbs_neg];exact by_)] at hcall
  rw [hcall,Int.sub_eq_add_neg]
  rfl
 ·cases h
end
end Go.Proofs.YtibaendebbicjaaGreat.L
