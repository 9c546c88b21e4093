import Derived.Test.YtibaendebbicjaaGreatZQA
set_option linter.unusedVariables false
set_option linter.unusedSimpArgs false
namespace Go.Proofs.YtibaendebbicjaaGreat.L
open Go Go.V Go.RowKit Go.Proofs.YtibaendebbicjaaGreat.Sp Go.Proofs.YtibaendebbicjaaGreat.F
open Go.Proofs (Tryz.prog)
noncomputable section
theorem fr_one (c:Int):Rat.divInt c 1=(c:Rat):=by rw [Rat.divInt_eq_div];grind
theorem int_add (l:Int) (u:Rat):((l:Rat)+u).num=l*u.den+u.num∧((l:Rat)+u).den=u.den:=by
 have hc:Nat.Coprime (l*u.den+u.num).natAbs u.den:=by
  have h:=u.reduced
  unfold Nat.Coprime at h ⊢
  have h1:Int.gcd (l*u.den+u.num) u.den=Int.gcd u.num u.den:=by
   rw [Int.gcd_comm,Int.gcd_comm u.num,Int.add_comm]
   exact Int.gcd_add_mul_right_right ..
  exact h1.trans h
 have e:(l:Rat)+u= ⟨l*u.den+u.num,u.den,u.den_nz,hc⟩:=by
  rw [Rat.mk_eq_divInt,← fr_one l]
  have h:=fr_add l u.num (d:=1) (e:=u.den) (by decide) (den_ne' u)
  rw [Rat.num_divInt_den,Int.mul_one,Int.one_mul] at h
  exact h
 rw [e]
 exact ⟨rfl,rfl⟩
theorem inv_parts {t:Rat} (h:0 < t):(1 / t).num=t.den∧(1 / t).den=t.num.natAbs:=by
 have hn:0 < t.num:=by
  have:=(Rat.lt_iff 0 t).1 h
  simp at this
  omega
 rw [Rat.div_def,Rat.one_mul,Rat.num_inv,Rat.den_inv,if_neg (by omega),Int.sign_eq_one_of_pos hn,Int.one_mul]
 exact ⟨rfl,rfl⟩
theorem num_pos' {t:Rat} (h:0 < t):0 < t.num:=by
 have:=(Rat.lt_iff 0 t).1 h
 simp at this
 omega
theorem inv_anti {x y:Rat} (hx:0 < x) (h:x≤y):1 / y≤1 / x:=by
 have hy:0 < y:=by grind
 rcases Rat.le_total (a:=1 / y) (b:=1 / x) with h1 | h1
 ·exact h1
 ·have h2:=Rat.mul_le_mul_of_nonneg_right h1 (Rat.le_of_lt (Rat.mul_pos hx hy))
  have e1:1 / x*(x*y)=y:=by grind
  have e2:1 / y*(x*y)=x:=by grind
  rw [e1,e2] at h2
  have:x=y:=Rat.le_antisymm h h2
  rw [this];exact Rat.le_refl
theorem inv_pos' {x:Rat} (hx:0 < x):0 < 1 / x:=by rw [Rat.div_def,Rat.one_mul];exact Rat.inv_pos.2 hx
theorem inv_inv' {x:Rat} (hx:0 < x):1 / (1 / x)=x:=by grind
structure Gap (a b:Rat) (l:Int):Prop where
 l0:0≤l
 ca:a.ceil=l+1
 a1:0 < a - (l:Rat)
 ab:a - (l:Rat)≤b - (l:Rat)
 b1:b - (l:Rat) < 1
theorem gap_of {a b:Rat} (h0:0 < a) (h1:a≤b) (h2:¬ (a.ceil:Rat)≤b):Gap a b (a.ceil - 1):=by
 have h3:((a.ceil:Int):Rat) < a+1:=Rat.ceil_lt
 have h4:a≤((a.ceil:Int):Rat):=Rat.le_ceil
 have e:((a.ceil - 1:Int):Rat)=(a.ceil:Rat) - 1:=by rw [Rat.intCast_sub];rfl
 have h5:(0:Rat) < (a.ceil:Rat):=by grind
 have h6:=Rat.intCast_pos.1 h5
 have h7:=Rat.not_le.1 h2
 refine ⟨by omega,by omega, ?_, ?_, ?_⟩ <;> rw [e] <;> grind
theorem den_sub_int (a:Rat) (l:Int):(a - (l:Rat)).den=a.den:=by
 have h:=(int_add (-l) a).2
 rw [Rat.intCast_neg] at h
 rw [← h]
 refine congrArg Rat.den ?_
 grind
theorem num_lt_den {q:Rat} (h0:0 < q) (h1:q < 1):q.num.natAbs < q.den:=by
 have h2:=(Rat.lt_iff q 1).1 h1
 have h3:=num_pos' h0
 simp at h2
 omega
theorem Gap.dens {a b:Rat} {l:Int} (h:Gap a b l):(1 / (b - (l:Rat))).den < b.den∧(1 / (a - (l:Rat))).den < a.den∧(1 / (b - (l:Rat))).num=b.den∧(1 / (a - (l:Rat))).num=a.den:=by
 obtain ⟨h0,h1,h2,h3,h4⟩:=h
 have hb:0 < b - (l:Rat):=by grind
 have ha:a - (l:Rat) < 1:=by grind
 obtain ⟨e1,e2⟩:=inv_parts hb
 obtain ⟨e3,e4⟩:=inv_parts h2
 have d1:=num_lt_den hb h4
 have d2:=num_lt_den h2 ha
 rw [den_sub_int] at d1 d2 e1 e3
 rw [e2,e4,e1,e3]
 exact ⟨d1,d2,rfl,rfl⟩
theorem simpQ_fuel:∀ (n m:Nat) (a b:Rat),0 < a→a≤b→a.den+b.den≤n→a.den+b.den≤m→simpQ n a b=simpQ m a b
 | 0,_,a,b,_,_,h,_=>by have:=a.den_pos;omega
 | _,0,a,b,_,_,_,h=>by have:=a.den_pos;omega
 | n+1,m+1,a,b,h0,h1,hn,hm=>by
  unfold simpQ
  by_cases h2:(a.ceil:Rat)≤b
  ·rw [if_pos h2,if_pos h2]
  ·rw [if_neg h2,if_neg h2]
   have g:=gap_of h0 h1 h2
   obtain ⟨d1,d2,_,_⟩:=g.dens
   have hb:0 < b - ((a.ceil - 1:Int):Rat):=by have:=g.a1;have:=g.ab;grind
   rw [simpQ_fuel n m _ _ (inv_pos' hb) (inv_anti g.a1 g.ab) (by omega) (by omega)]
theorem simp1_eq {a b:Rat} (h0:0 < a) (h1:a≤b):simp1 a b=if (a.ceil:Rat)≤b then (a.ceil:Rat) else ((a.ceil - 1:Int):Rat)+1 / simp1 (1 / (b - ((a.ceil - 1:Int):Rat))) (1 / (a - ((a.ceil - 1:Int):Rat))):=by
 have hp:=a.den_pos
 have e:simp1 a b=simpQ ((a.den+b.den - 1)+1) a b:=by unfold simp1;rw [show a.den+b.den - 1+1=a.den+b.den by omega]
 rw [e]
 unfold simpQ
 by_cases h2:(a.ceil:Rat)≤b
 ·rw [if_pos h2,if_pos h2]
 ·rw [if_neg h2,if_neg h2]
  have g:=gap_of h0 h1 h2
  obtain ⟨d1,d2,_,_⟩:=g.dens
  have hb:0 < b - ((a.ceil - 1:Int):Rat):=by have:=g.a1;have:=g.ab;grind
  rw [simpQ_fuel _ _ _ _ (inv_pos' hb) (inv_anti g.a1 g.ab) (by omega) (Nat.le_refl _)]
  rfl
theorem simp1_spec (k:Nat):∀ (a b:Rat),0 < a→a≤b→a.den+b.den≤k→a≤simp1 a b∧simp1 a b≤b∧∀ q:Rat,a≤q→q≤b→(simp1 a b).den≤q.den∧(simp1 a b).num≤q.num:=by
 induction k with
 | zero=>intro a b _ _ h;have:=a.den_pos;omega
 | succ k ih=>
  intro a b h0 h1 hk
  rw [simp1_eq h0 h1]
  by_cases h2:(a.ceil:Rat)≤b
  ·rw [if_pos h2]
   refine ⟨Rat.le_ceil,h2,fun q hq1 hq2=> ?_⟩
   rw [Rat.den_intCast,Rat.num_intCast]
   have hd:=q.den_pos
   refine ⟨hd, ?_⟩
   have h3:((a.ceil:Int):Rat) < a+1:=Rat.ceil_lt
   have h4:((a.ceil - 1:Int):Rat) < q:=by
    rw [Rat.intCast_sub]
    have:((1:Int):Rat)=1:=rfl
    grind
   have h5:=(Rat.lt_iff _ _).1 h4
   rw [Rat.num_intCast,Rat.den_intCast] at h5
   have h6:(0:Rat) < (a.ceil:Rat):=by
    have:a≤((a.ceil:Int):Rat):=Rat.le_ceil
    grind
   have h7:=Rat.intCast_pos.1 h6
   have h8:(a.ceil - 1)*1≤(a.ceil - 1)*(q.den:Int):=Int.mul_le_mul_of_nonneg_left (by omega) (by omega)
   omega
  ·rw [if_neg h2]
   have g:=gap_of h0 h1 h2
   obtain ⟨d1,d2,_,_⟩:=g.dens
   generalize a.ceil - 1=l at*
   have hb:0 < b - (l:Rat):=by have:=g.a1;have:=g.ab;grind
   obtain ⟨i1,i2,i3⟩:=ih _ _ (inv_pos' hb) (inv_anti g.a1 g.ab) (by omega)
   generalize simp1 (1 / (b - (l:Rat))) (1 / (a - (l:Rat)))=r at*
   have hr:0 < r:=by have:=inv_pos' hb;grind
   have u1:=inv_anti hr i2
   have u2:=inv_anti (inv_pos' hb) i1
   rw [inv_inv' g.a1] at u1
   rw [inv_inv' hb] at u2
   refine ⟨by grind,by grind,fun q hq1 hq2=> ?_⟩
   have hq0:0 < q - (l:Rat):=by have:=g.a1;grind
   obtain ⟨j1,j2⟩:=i3 (1 / (q - (l:Rat))) (inv_anti hq0 (by grind)) (inv_anti g.a1 (by grind))
   obtain ⟨e1,e2⟩:=inv_parts hq0
   rw [e2] at j1
   rw [e1] at j2
   obtain ⟨e3,e4⟩:=inv_parts hr
   obtain ⟨e5,e6⟩:=int_add l (1 / r)
   rw [e5,e6,e3,e4]
   have eq:q=(l:Rat)+(q - (l:Rat)):=by grind
   obtain ⟨e7,e8⟩:=int_add l (q - (l:Rat))
   rw [← eq] at e7 e8
   rw [e7,e8]
   have n1:=num_pos' hr
   have n2:=num_pos' hq0
   have l0:=g.l0
   have m1:l*((r.num.natAbs:Nat):Int)≤l*(((q - (l:Rat)).den:Nat):Int):=Int.mul_le_mul_of_nonneg_left (by omega) l0
   omega
def CSi (S:Sg) (X:Xg) (Z:Qg) (κ:Rat→Rat→Bool) (φ:Rat→Rat→Rat):FuncId→TF:=
 addC 30 (tSimpl Z κ φ) (addC 17 (tQNew S X Z) (addC 54 (tQCeil S Z) (addC 26 (tOf S) (addC 27 (tQCompare Z) (addC 55 (tQSub Z) (addC 56 (tQOf Z) (addC 57 (tQQuo Z) (addC 58 (tQAdd Z) noC))))))))
theorem simpl_tree (S:Sg) (X:Xg) (Z:Qg) (κ:Rat→Rat→Bool) (φ:Rat→Rat→Rat) (b c:Bool) (n d m e:ByteArray):letI q_6:=(Z.fr (S.val (S.ng (Z.cl (Z.qv b n d))) (S.ms (Z.cl (Z.qv b n d)))) (S.val (S.ng (1:Int)) (S.ms (1:Int))));letI q_7:=(Z.fr (1:Int) (1:Int));letI q_1:=(Z.qv (Z.qn q_6) (Z.qs q_6) (Z.qd q_6) - Z.qv (Z.qn q_7) (Z.qs q_7) (Z.qd q_7));letI q_8:=(Z.qv c m e - Z.qv (Z.qn q_1) (Z.qs q_1) (Z.qd q_1));letI q_3:=(Z.qv (Z.qn q_7) (Z.qs q_7) (Z.qd q_7) / Z.qv (Z.qn q_8) (Z.qs q_8) (Z.qd q_8));letI q_9:=(Z.qv b n d - Z.qv (Z.qn q_1) (Z.qs q_1) (Z.qd q_1));letI q_4:=(Z.qv (Z.qn q_7) (Z.qs q_7) (Z.qd q_7) / Z.qv (Z.qn q_9) (Z.qs q_9) (Z.qd q_9));letI q_2:=(φ (Z.qv (Z.qn q_3) (Z.qs q_3) (Z.qd q_3)) (Z.qv (Z.qn q_4) (Z.qs q_4) (Z.qd q_4)));letI q_5:=(Z.qv (Z.qn q_7) (Z.qs q_7) (Z.qd q_7) / Z.qv (Z.qn q_2) (Z.qs q_2) (Z.qd q_2));letI q_10:=(Z.qv (Z.qn q_1) (Z.qs q_1) (Z.qd q_1)+Z.qv (Z.qn q_5) (Z.qs q_5) (Z.qd q_5));
  (callA Tryz.prog ⟨CSi S X Z κ φ,Kall,noL⟩ 10 10 30 [.agg [.val (.bool b), .val (.string n), .val (.string d)], .agg [.val (.bool c), .val (.string m), .val (.string e)]]=(bif Z.ok n d then (bif S.ok (S.ms (Z.cl (Z.qv b n d)))&&S.ok (S.ms (1:Int)) then (bif Z.ok (Z.qs q_6) (Z.qd q_6)&&Z.ok m e then (bif decide (Z.cq (Z.qv (Z.qn q_6) (Z.qs q_6) (Z.qd q_6)) (Z.qv c m e)≤(0:Int)) then some (.agg [(.val (.bool (Z.qn q_6))),(.val (.string (Z.qs q_6))),(.val (.string (Z.qd q_6)))]) else (bif Z.ok (Z.qs q_6) (Z.qd q_6)&&Z.ok (Z.qs q_7) (Z.qd q_7) then (bif Z.ok m e&&Z.ok (Z.qs q_1) (Z.qd q_1) then (bif Z.ok (Z.qs q_7) (Z.qd q_7)&&Z.ok (Z.qs q_8) (Z.qd q_8) then (bif Z.ok n d&&Z.ok (Z.qs q_1) (Z.qd q_1) then (bif Z.ok (Z.qs q_7) (Z.qd q_7)&&Z.ok (Z.qs q_9) (Z.qd q_9) then (bif κ (Z.qv (Z.qn q_3) (Z.qs q_3) (Z.qd q_3)) (Z.qv (Z.qn q_4) (Z.qs q_4) (Z.qd q_4))&&Z.oks (Z.qs q_3) (Z.qd q_3)&&Z.oks (Z.qs q_4) (Z.qd q_4) then (bif Z.ok (Z.qs q_7) (Z.qd q_7)&&Z.ok (Z.qs q_2) (Z.qd q_2) then (bif Z.ok (Z.qs q_1) (Z.qd q_1)&&Z.ok (Z.qs q_5) (Z.qd q_5) then some (.agg [(.val (.bool (Z.qn q_10))),(.val (.string (Z.qs q_10))),(.val (.string (Z.qd q_10)))]) else none) else none) else none) else none) else none) else none) else none) else none)) else none) else none) else none)):=by kernel_rfl
def CSt (Z:Qg) (κ:Rat→Rat→Bool) (φ:Rat→Rat→Rat):FuncId→TF:=
 addC 30 (tSimpl Z κ φ) (addC 27 (tQCompare Z) (addC 28 (tQSign Z) (addC 29 (tQNeg Z) noC)))
theorem simplest_tree (Z:Qg) (κ:Rat→Rat→Bool) (φ:Rat→Rat→Rat) (b c:Bool) (n d m e:ByteArray):letI q_1:=(φ (Z.qv (Z.qn (-Z.qv c m e)) (Z.qs (-Z.qv c m e)) (Z.qd (-Z.qv c m e))) (Z.qv (Z.qn (-Z.qv b n d)) (Z.qs (-Z.qv b n d)) (Z.qd (-Z.qv b n d))));letI q_2:Option AV:=(bif Z.ok m e then (bif decide (Z.sq (Z.qv c m e) < (0:Int)) then (bif Z.ok m e then (bif Z.ok n d then (bif κ (Z.qv (Z.qn (-Z.qv c m e)) (Z.qs (-Z.qv c m e)) (Z.qd (-Z.qv c m e))) (Z.qv (Z.qn (-Z.qv b n d)) (Z.qs (-Z.qv b n d)) (Z.qd (-Z.qv b n d)))&&Z.oks (Z.qs (-Z.qv c m e)) (Z.qd (-Z.qv c m e))&&Z.oks (Z.qs (-Z.qv b n d)) (Z.qd (-Z.qv b n d)) then (bif Z.ok (Z.qs q_1) (Z.qd q_1) then some (.tup [(.agg [(.val (.bool (Z.qn (-Z.qv (Z.qn q_1) (Z.qs q_1) (Z.qd q_1))))),(.val (.string (Z.qs (-Z.qv (Z.qn q_1) (Z.qs q_1) (Z.qd q_1))))),(.val (.string (Z.qd (-Z.qv (Z.qn q_1) (Z.qs q_1) (Z.qd q_1)))))]),(.val (.int .i64 0))]) else none) else none) else none) else none) else (bif κ (Z.qv b n d) (Z.qv c m e)&&Z.oks n d&&Z.oks m e then some (.tup [(.agg [(.val (.bool (Z.qn (φ (Z.qv b n d) (Z.qv c m e))))),(.val (.string (Z.qs (φ (Z.qv b n d) (Z.qv c m e))))),(.val (.string (Z.qd (φ (Z.qv b n d) (Z.qv c m e)))))]),(.val (.int .i64 0))]) else none)) else none);
  (callA Tryz.prog ⟨CSt Z κ φ,Kall,noL⟩ 10 10 12 [.agg [.val (.bool b), .val (.string n), .val (.string d)], .agg [.val (.bool c), .val (.string m), .val (.string e)]]=(bif Z.ok n d&&Z.ok m e then (bif decide ((0:Int) < Z.cq (Z.qv b n d) (Z.qv c m e)) then some (.tup [(.agg [(.val (.bool false)),(.val (.string (ByteArray.mk #[]))),(.val (.string (ByteArray.mk #[])))]),(.val (.int .i64 8))]) else (bif Z.ok n d then (bif decide (Z.sq (Z.qv b n d)≤(0:Int)) then (bif Z.ok m e then (bif decide ((0:Int)≤Z.sq (Z.qv c m e)) then some (.tup [(.agg [(.val (.bool false)),(.val (.string (ByteArray.mk #[]))),(.val (.string (ByteArray.mk #[])))]),(.val (.int .i64 0))]) else q_2) else none) else q_2) else none)) else none)):=by kernel_rfl
end
end Go.Proofs.YtibaendebbicjaaGreat.L
namespace Go.Proofs.YtibaendebbicjaaGreat.L
open Go Go.V Go.RowKit Go.Proofs.YtibaendebbicjaaGreat.Sp Go.Proofs.YtibaendebbicjaaGreat.F
open Go.Proofs (Tryz.prog)
noncomputable section
theorem cq_le (x y:Rat):cqn x y≤0↔x≤y:=by
 unfold cqn
 rw [← Rat.not_lt]
 by_cases h1:x < y
 ·rw [if_pos h1];constructor
  ·intro _ h;grind
  ·intro _;decide
 ·rw [if_neg h1]
  by_cases h2:y < x
  ·rw [if_pos h2];constructor
   ·intro h;omega
   ·intro h;exact absurd h2 h
  ·rw [if_neg h2];constructor
   ·intro _;exact h2
   ·intro _;decide
theorem cq_swap (x y:Rat):cqn x y= -cqn y x:=by
 unfold cqn
 by_cases h1:x < y
 ·rw [if_pos h1,if_neg (by grind),if_pos h1]
 ·rw [if_neg h1]
  by_cases h2:y < x
  ·rw [if_pos h2,if_pos h2];rfl
  ·rw [if_neg h2,if_neg h2,if_neg h1];rfl
theorem cq_ge (x y:Rat):0≤cqn x y↔y≤x:=by
 rw [cq_swap,← cq_le];omega
theorem cq_gt (x y:Rat):0 < cqn x y↔y < x:=by
 rw [← Rat.not_le,← cq_le];omega
theorem cq_lt (x y:Rat):cqn x y < 0↔x < y:=by
 rw [cq_swap,← cq_gt];omega
theorem bs_ceil (q:Rat):bs q.ceil.natAbs≤bs q.num.natAbs+1:=by
 rw [Rat.ceil_eq_neg_floor_neg,Int.natAbs_neg]
 have:=bs_floor (-q)
 rwa [Rat.neg_num,Int.natAbs_neg] at this
theorem szq_int (c:Int):szq (c:Rat)≤max (bs c.natAbs) 1:=by
 unfold szq
 rw [Rat.num_intCast,Rat.den_intCast]
 have:=bs_one
 omega
theorem szq_one:szq 1≤1:=by
 have h:=szq_int 1
 have:=bs_one
 have e:((1:Int):Rat)=1:=rfl
 rw [e,show (1:Int).natAbs=1 from rfl] at h
 omega
theorem szq_simp {a b:Rat} (h0:0 < a) (h1:a≤b):szq (simp1 a b)≤szq a:=by
 obtain ⟨h2,h3,h4⟩:=simp1_spec _ a b h0 h1 (Nat.le_refl _)
 obtain ⟨h5,h6⟩:=h4 a Rat.le_refl h1
 have h7:=num_pos' (show 0 < simp1 a b by grind)
 have h8:=bs_mono h5
 have h9:(simp1 a b).num.natAbs≤a.num.natAbs:=by omega
 have h9:=bs_mono h9
 unfold szq
 omega
def kap (k:Nat) (x y:Rat):Bool:=decide (0 < x∧x≤y∧x.den+y.den≤k)
theorem CSi_ok {κ:Rat→Rat→Bool} {φ:Rat→Rat→Rat} (h:Entry Tryz.prog 30 (tSimpl sq0 κ φ)):Meets Tryz.prog (CSi sg0 xg0 sq0 κ φ):=
 (((((((((meets_none _).add eQAdd).add eQQuo).add eQOf).add eQSub).add eQCompare).add eOf).add eQCeil).add eQNew).add h
theorem val_one:sg0.val (sg0.ng 1) (sg0.ms 1)=1:=val_ms 1
theorem eSimpl0 (k:Nat):Entry Tryz.prog 30 (tSimpl sq0 (kap k) simp1):=by
 induction k with
 | zero=>
  intro args r h
  unfold tSimpl at h
  split at h
  ·rename_i b n d c m e
   simp only [Option.some.injEq,Prod.mk.injEq,Bool.and_eq_true] at h
   obtain ⟨⟨⟨h0,_⟩,_⟩,_⟩:=h
   unfold kap at h0
   rw [decide_eq_true_eq] at h0
   have:=h0.2.2
   have:=(sq0.qv b n d).den_pos
   omega
  ·cases h
 | succ k ih=>
  refine entry_of (E:= ⟨CSi sg0 xg0 sq0 (kap k) simp1,Kall,noL⟩) (u:=10) (d:=10) (CSi_ok ih) loops_none mixed (by kernel_rfl) (fun args r h=> ?_)
  unfold tSimpl at h
  split at h
  ·rename_i b n d c m e
   simp only [Option.some.injEq,Prod.mk.injEq,Bool.and_eq_true] at h
   obtain ⟨⟨⟨h0,h1⟩,h2⟩,rfl⟩:=h
   unfold kap at h0
   rw [decide_eq_true_eq] at h0
   obtain ⟨p0,p1,p2⟩:=h0
   obtain ⟨z1,z2⟩:=qoks_out h1
   obtain ⟨z3,z4⟩:=qoks_out h2
   have hcall:=simpl_tree sg0 xg0 sq0 (kap k) simp1 b c n d m e
   have hx:=szq_val b n d
   have hy:=szq_val c m e
   have hfr:∀ c:Int,sq0.fr c 1=(c:Rat):=fr_one
   have hcl:∀ q,sq0.cl q=q.ceil:=fun q=>rfl
   have hcq:∀ x y,sq0.cq x y=cqn x y:=fun x y=>rfl
   have e1:((1:Int):Rat)=1:=rfl
   simp only [qv_rat,val_ms,val_one,hfr,hcl,hcq] at hcall
   simp only [e1] at hcall
   rw [qok_in (n:=n) (d:=d) (by omega) (by omega),qok_in (n:=m) (d:=e) (by omega) (by omega)] at hcall
   generalize sq0.qv b n d=x at*
   generalize sq0.qv c m e=y at*
   have c1:=bs_ceil x
   have c2:=szq_int x.ceil
   have c3:bs x.num.natAbs≤szq x:=Nat.le_max_left _ _
   have o1:sq0.ok (sq0.qs 1) (sq0.qd 1)=true:=ok_rat (by have:=szq_one;omega)
   rw [ok_ms (z:=x.ceil) (by omega),ok_ms1,ok_rat (q:=(x.ceil:Rat)) (by omega)] at hcall
   rw [simp1_eq p0 p1]
   by_cases h3:(x.ceil:Rat)≤y
   ·rw [if_pos h3]
    rw [dT ((cq_le _ _).2 h3)] at hcall
    exact hcall
   ·rw [if_neg h3]
    rw [dF (fun h=>h3 ((cq_le _ _).1 h))] at hcall
    have g:=gap_of p0 p1 h3
    have el:(x.ceil:Rat) - 1=((x.ceil - 1:Int):Rat):=by rw [Rat.intCast_sub];rfl
    rw [el] at hcall
    have c4:=bs_zsub x.ceil 1
    have c5:=bs_one
    have c6:(1:Int).natAbs=1:=rfl
    rw [c6] at c4
    generalize x.ceil - 1=l at*
    have c7:=szq_int l
    have hb:0 < y - (l:Rat):=by have:=g.a1;have:=g.ab;grind
    obtain ⟨d1,d2,d3,d4⟩:=g.dens
    have s1:=szq_sub y (l:Rat)
    have s2:=szq_sub x (l:Rat)
    have i1:=inv_pos' hb
    have i2:=inv_anti g.a1 g.ab
    have s3:szq (1 / (y - (l:Rat)))≤szq y:=by
     have t1:=bs_mono (Nat.le_of_lt d1)
     unfold szq
     rw [d3,Int.natAbs_natCast]
     omega
    have s4:szq (1 / (x - (l:Rat)))≤szq x:=by
     have t1:=bs_mono (Nat.le_of_lt d2)
     unfold szq
     rw [d4,Int.natAbs_natCast]
     omega
    have s5:=szq_simp i1 i2
    have s6:=szq_div 1 (simp1 (1 / (y - (l:Rat))) (1 / (x - (l:Rat))))
    have s7:=szq_one
    have k1:kap k (1 / (y - (l:Rat))) (1 / (x - (l:Rat)))=true:=by
     unfold kap
     rw [decide_eq_true_eq]
     exact ⟨i1,i2,by omega⟩
    rw [o1,ok_rat (q:=(l:Rat)) (by omega),ok_rat (q:=y - (l:Rat)) (by omega),ok_rat (q:=x - (l:Rat)) (by omega),k1,oks_rat (q:=1 / (y - (l:Rat))) (by omega),oks_rat (q:=1 / (x - (l:Rat))) (by omega),ok_rat (q:=simp1 (1 / (y - (l:Rat))) (1 / (x - (l:Rat)))) (by omega),ok_rat (q:=1 / simp1 (1 / (y - (l:Rat))) (1 / (x - (l:Rat)))) (by omega)] at hcall
    exact hcall
  ·cases h
def kapA (x y:Rat):Bool:=decide (0 < x∧x≤y)
theorem eSimpl:Entry Tryz.prog 30 (tSimpl sq0 kapA simp1):=by
 intro args r h
 have h':=h
 unfold tSimpl at h'
 split at h'
 ·rename_i b n d c m e
  simp only [Option.some.injEq,Prod.mk.injEq,Bool.and_eq_true] at h'
  obtain ⟨⟨⟨h0,h1⟩,h2⟩,rfl⟩:=h'
  unfold kapA at h0
  rw [decide_eq_true_eq] at h0
  refine eSimpl0 ((sq0.qv b n d).den+(sq0.qv c m e).den) _ _ ?_
  unfold tSimpl kap
  simp only
  rw [h1,h2,decide_eq_true (show 0 < sq0.qv b n d∧sq0.qv b n d≤sq0.qv c m e∧(sq0.qv b n d).den+(sq0.qv c m e).den≤(sq0.qv b n d).den+(sq0.qv c m e).den from ⟨h0.1,h0.2,Nat.le_refl _⟩)]
  rfl
 ·cases h'
theorem eSimplest:Entry Tryz.prog 12 (tSimplest sq0):=by
 refine entry_of (E:= ⟨CSt sq0 kapA simp1,Kall,noL⟩) (u:=10) (d:=10) (((((meets_none _).add eQNeg).add eQSign).add eQCompare).add eSimpl) loops_none mixed (by kernel_rfl) (fun args r h=> ?_)
 unfold tSimplest at h
 split at h
 ·rename_i b n d c m e
  simp only [Option.some.injEq,Prod.mk.injEq,Bool.and_eq_true] at h
  obtain ⟨⟨h1,h2⟩,rfl⟩:=h
  obtain ⟨z1,z2⟩:=qoks_out h1
  obtain ⟨z3,z4⟩:=qoks_out h2
  have hcall:=simplest_tree sq0 kapA simp1 b c n d m e
  have hx:=szq_val b n d
  have hy:=szq_val c m e
  have hcq:∀ x y,sq0.cq x y=cqn x y:=fun x y=>rfl
  have hsq:∀ x,sq0.sq x=cqn x 0:=fun x=>rfl
  have hsp:∀ x y,sq0.sp x y=simp2 x y:=fun x y=>rfl
  have hse:∀ x y:Rat,sq0.se x y=if y < x then 8 else 0:=fun x y=>rfl
  simp only [qv_rat,hcq,hsq] at hcall
  rw [hsp,hse]
  rw [qok_in (n:=n) (d:=d) (by omega) (by omega),qok_in (n:=m) (d:=e) (by omega) (by omega),h1,h2] at hcall
  generalize sq0.qv b n d=x at*
  generalize sq0.qv c m e=y at*
  have n1:=szq_neg x
  have n2:=szq_neg y
  rw [oks_rat (q:= -y) (by omega),oks_rat (q:= -x) (by omega)] at hcall
  rw [hcall]
  clear hcall
  unfold simp2
  by_cases g1:y < x
  ·rw [if_pos g1,if_pos g1,dT ((cq_gt _ _).2 g1),rat_zero];rfl
  ·rw [if_neg g1,if_neg g1,dF (fun h=>g1 ((cq_gt _ _).1 h))]
   have tail:¬ (x≤0∧0≤y)→(bif true then (bif decide (cqn y 0 < 0) then (bif true then (bif true then (bif kapA (-y) (-x)&&true&&true then (bif sq0.ok (sq0.qs (simp1 (-y) (-x))) (sq0.qd (simp1 (-y) (-x))) then some (AV.tup [AV.agg [AV.val (.bool (sq0.qn (-simp1 (-y) (-x)))),AV.val (.string (sq0.qs (-simp1 (-y) (-x)))),AV.val (.string (sq0.qd (-simp1 (-y) (-x))))],AV.val (.int .i64 0)]) else none) else none) else none) else none) else (bif kapA x y&&true&&true then some (AV.tup [AV.agg [AV.val (.bool (sq0.qn (simp1 x y))),AV.val (.string (sq0.qs (simp1 x y))),AV.val (.string (sq0.qd (simp1 x y)))],AV.val (.int .i64 0)]) else none)) else none)=
     some (AV.tup [sq0.rat (if y < 0 then -(simp1 (-y) (-x)) else simp1 x y),AV.val (.int .i64 0)]):=by
    intro hn
    by_cases g2:y < 0
    ·have k1:kapA (-y) (-x)=true:=by unfold kapA;rw [decide_eq_true_eq];constructor <;> grind
     have sz:=szq_simp (a:= -y) (b:= -x) (by grind) (by grind)
     rw [dT ((cq_lt _ _).2 g2),k1,ok_rat (q:=simp1 (-y) (-x)) (by omega),if_pos g2];rfl
    ·have k1:kapA x y=true:=by
      unfold kapA;rw [decide_eq_true_eq]
      constructor
      ·rw [← Rat.not_le];intro h;exact hn ⟨h,by grind⟩
      ·grind
     rw [dF (fun h=>g2 ((cq_lt _ _).1 h)),k1,if_neg g2];rfl
   by_cases g3:x≤0
   ·rw [dT ((cq_le _ _).2 g3)]
    by_cases g4:0≤y
    ·rw [dT ((cq_ge _ _).2 g4),if_pos ⟨g3,g4⟩,rat_zero];rfl
    ·rw [dF (fun h=>g4 ((cq_ge _ _).1 h)),if_neg (fun h=>g4 h.2)]
     exact tail (fun h=>g4 h.2)
   ·rw [dF (fun h=>g3 ((cq_le _ _).1 h)),if_neg (fun h=>g3 h.1)]
    exact tail (fun h=>g3 h.1)
 ·cases h
end
end Go.Proofs.YtibaendebbicjaaGreat.L
namespace Go.Proofs.YtibaendebbicjaaGreat.L
open Go Go.V Go.RowKit Go.Proofs.YtibaendebbicjaaGreat.Sp Go.Proofs.YtibaendebbicjaaGreat.F
open Go.Proofs (Tryz.prog)
noncomputable section
def bigA (b:Bool) (l:List UInt8):AV:= .agg [.val (.bool b), .val (.string ⟨⟨l⟩⟩)]
def big3 (b:Bool) (n d:List UInt8):AV:= .agg [.val (.bool b), .val (.string ⟨⟨n⟩⟩), .val (.string ⟨⟨d⟩⟩)]
def isS (s:ByteArray) (l:List UInt8):Bool:=s.data.toList==l
theorem isS_out {s:ByteArray} {l:List UInt8} (h:isS s l=true):s= ⟨⟨l⟩⟩:=by
 unfold isS at h
 rw [beq_iff_eq] at h
 exact bytes_ext h
theorem aw_p1:callA Tryz.prog ⟨noC,fun _=>false,noL⟩ 60 20 23 [bigA false [1]]=some (.val (.string ⟨⟨[49]⟩⟩)):=by kernel_rfl
theorem aw_p3:callA Tryz.prog ⟨noC,fun _=>false,noL⟩ 60 20 23 [bigA false [3]]=some (.val (.string ⟨⟨[51]⟩⟩)):=by kernel_rfl
def aPr:TF:=fun args=>match args with
 | [.agg [.val (.bool b), .val (.string s)]]=>bif isS s [1] then some (!b&&isS s [1], .val (.string ⟨⟨[49]⟩⟩)) else some (!b&&isS s [3], .val (.string ⟨⟨[51]⟩⟩))
 | _=>none
theorem eAPr:Entry Tryz.prog 23 aPr:=by
 refine entry_of (E:= ⟨noC,fun _=>false,noL⟩) (u:=60) (d:=20) (meets_none _) loops_none mixed (by kernel_rfl) (fun args r h=> ?_)
 unfold aPr at h
 split at h
 ·rename_i b s
  rw [Bool.cond_eq_ite] at h
  split at h
  ·simp only [Option.some.injEq,Prod.mk.injEq,Bool.and_eq_true,Bool.not_eq_true'] at h
   obtain ⟨⟨rfl,h2⟩,rfl⟩:=h
   rw [isS_out h2]
   exact aw_p1
  ·simp only [Option.some.injEq,Prod.mk.injEq,Bool.and_eq_true,Bool.not_eq_true'] at h
   obtain ⟨⟨rfl,h2⟩,rfl⟩:=h
   rw [isS_out h2]
   exact aw_p3
 ·cases h
theorem int_big {z:Int} {l:List UInt8} {b:Bool} (hb:(enc z).1=b) (hv:vB l=z.natAbs) (hl:Lead l):sg0.int z=bigA b l:=by
 have:=magOf_of_lead ⟨⟨l⟩⟩ hl
 have hv2:vS ⟨⟨l⟩⟩=z.natAbs:=hv
 rw [hv2] at this
 show AV.agg [.val (.bool (enc z).1), .val (.string (magOf z.natAbs))]=_
 rw [this,hb]
 rfl
def aParts:TF:=fun args=>match args with
 | [.agg [.val (.bool b), .val (.string n), .val (.string d)]]=>some (!b&&isS n [1]&&isS d [3], .tup [bigA false [1],bigA false [3]])
 | _=>none
theorem eAParts:Entry Tryz.prog 21 aParts:=entry_less eQParts fun args r h=>by
 unfold aParts at h
 split at h
 ·simp only [Option.some.injEq,Prod.mk.injEq,Bool.and_eq_true,Bool.not_eq_true'] at h
  obtain ⟨⟨⟨rfl,h2⟩,h3⟩,rfl⟩:=h
  rw [isS_out h2,isS_out h3]
  have e1:sg0.int (sq0.nu (sq0.qv false ⟨⟨[1]⟩⟩ ⟨⟨[3]⟩⟩))=bigA false [1]:=int_big (by decide +kernel) (by decide +kernel) (by unfold Lead;decide)
  have e2:sg0.int (sq0.de (sq0.qv false ⟨⟨[1]⟩⟩ ⟨⟨[3]⟩⟩))=bigA false [3]:=int_big (by decide +kernel) (by decide +kernel) (by unfold Lead;decide)
  unfold tQParts tQ1
  simp only [e1,e2]
  rfl
 ·cases h
theorem aw_pq:callA Tryz.prog ⟨addC 21 aParts (addC 23 aPr noC),Kall,noL⟩ 60 20 8 [big3 false [1] [3]]=some (.val (.string ⟨⟨[49,47,51]⟩⟩)):=by kernel_rfl
def aPrQ:TF:=fun args=>match args with
 | [.agg [.val (.bool b), .val (.string n), .val (.string d)]]=>some (!b&&isS n [1]&&isS d [3], .val (.string ⟨⟨[49,47,51]⟩⟩))
 | _=>none
theorem eAPrQ:Entry Tryz.prog 8 aPrQ:=by
 refine entry_of (E:= ⟨addC 21 aParts (addC 23 aPr noC),Kall,noL⟩) (u:=60) (d:=20) (((meets_none _).add eAPr).add eAParts) loops_none mixed (by kernel_rfl) (fun args r h=> ?_)
 unfold aPrQ at h
 split at h
 ·simp only [Option.some.injEq,Prod.mk.injEq,Bool.and_eq_true,Bool.not_eq_true'] at h
  obtain ⟨⟨⟨rfl,h2⟩,h3⟩,rfl⟩:=h
  rw [isS_out h2,isS_out h3]
  exact aw_pq
 ·cases h
def CAwQ (S:Sg) (X:Xg) (Z:Qg):FuncId→TF:=addC 11 (tQRatio X Z) (addC 12 (tSimplest Z) (addC 14 (tQFloor S Z) (addC 13 (tSmall S X) (addC 8 aPrQ noC))))
theorem awq_tree (S:Sg) (X:Xg) (Z:Qg):letI q_7:=(Z.fr (1:Int) (3:Int));letI q_8:=(Z.fr (2:Int) (5:Int));letI q_1:=(Z.sp (Z.qv (Z.qn q_7) (Z.qs q_7) (Z.qd q_7)) (Z.qv (Z.qn q_8) (Z.qs q_8) (Z.qd q_8)));letI q_5:=(Z.fr (5:Int) (17:Int));letI q_6:=(Z.fr (6:Int) (17:Int));letI q_2:=(Z.sp (Z.qv (Z.qn q_5) (Z.qs q_5) (Z.qd q_5)) (Z.qv (Z.qn q_6) (Z.qs q_6) (Z.qd q_6)));letI q_3:=(Z.fr (6:Int) (-4:Int));letI q_4:=(Z.fl (Z.qv (Z.qn q_3) (Z.qs q_3) (Z.qd q_3)));letI q_9:=(strEq (Z.qs q_3) (ByteArray.mk #[(3:UInt8)])&&(strEq (Z.qd q_3) (ByteArray.mk #[(2:UInt8)])&&true));
  (callA Tryz.prog ⟨CAwQ S X Z,Kall,noL⟩ 10 10 5 []=(bif Z.oks (Z.qs q_7) (Z.qd q_7)&&Z.oks (Z.qs q_8) (Z.qd q_8) then (bif Z.oks (Z.qs q_5) (Z.qd q_5)&&Z.oks (Z.qs q_6) (Z.qd q_6) then (bif Z.ok (Z.qs q_3) (Z.qd q_3) then (bif S.ok (S.ms q_4) then (bif decide (X.de (-4:Int)=(0:Int)) then (bif decide (Z.se (Z.qv (Z.qn q_7) (Z.qs q_7) (Z.qd q_7)) (Z.qv (Z.qn q_8) (Z.qs q_8) (Z.qd q_8))=(0:Int)) then (bif decide (Z.se (Z.qv (Z.qn q_5) (Z.qs q_5) (Z.qd q_5)) (Z.qv (Z.qn q_6) (Z.qs q_6) (Z.qd q_6))=(0:Int)) then (bif bif false then !(Z.qn q_3==true&&q_9) else Z.qn q_3==true&&q_9 then (bif X.sb (S.val (S.ng q_4) (S.ms q_4)) then (bif decide (X.sv (S.val (S.ng q_4) (S.ms q_4))=(-2:Int)) then (bif !Z.qn q_1&&isS (Z.qs q_1) [(1:UInt8)]&&isS (Z.qd q_1) [(3:UInt8)] then some (.val (.bool (bif false then !(Z.qn q_2==Z.qn q_1&&(strEq (Z.qs q_2) (Z.qs q_1)&&(strEq (Z.qd q_2) (Z.qd q_1)&&true))) else Z.qn q_2==Z.qn q_1&&(strEq (Z.qs q_2) (Z.qs q_1)&&(strEq (Z.qd q_2) (Z.qd q_1)&&true))))) else none) else some (.val (.bool false))) else some (.val (.bool false))) else some (.val (.bool false))) else some (.val (.bool false))) else some (.val (.bool false))) else some (.val (.bool false))) else none) else none) else none) else none)):=by kernel_rfl
theorem rat_big {q:Rat} {b:Bool} {n d:List UInt8} (hb:(enc q.num).1=b) (hn:vB n=q.num.natAbs) (ln:Lead n) (h1:q.den≠1) (hd:vB d=q.den) (ld:Lead d):sq0.qn q=b∧sq0.qs q= ⟨⟨n⟩⟩∧sq0.qd q= ⟨⟨d⟩⟩:=by
 have e1:=magOf_of_lead ⟨⟨n⟩⟩ ln
 have e2:=magOf_of_lead ⟨⟨d⟩⟩ ld
 have hn2:vS ⟨⟨n⟩⟩=q.num.natAbs:=hn
 have hd2:vS ⟨⟨d⟩⟩=q.den:=hd
 rw [hn2] at e1
 rw [hd2] at e2
 refine ⟨hb,e1, ?_⟩
 rw [qd_if,if_neg h1]
 exact e2
theorem szq_tiny {x y:Int} (hx:x.natAbs < 256) (hy:y.natAbs < 256) (h0:y≠0):szq (Rat.divInt x y)≤1:=by
 have h:=szq_fr x h0
 have h1:=bs_le (n:=x.natAbs) (m:=1) (by omega)
 have h2:=bs_le (n:=y.natAbs) (m:=1) (by omega)
 omega
theorem oks_tiny {x y:Int} (hx:x.natAbs < 256) (hy:y.natAbs < 256) (h0:y≠0):sq0.oks (sq0.qs (Rat.divInt x y)) (sq0.qd (Rat.divInt x y))=true:=oks_rat (by have:=szq_tiny hx hy h0;omega)
theorem CAwQ_ok:Meets Tryz.prog (CAwQ sg0 xg0 sq0):=(((((meets_none _).add eAPrQ).add eSmall).add eQFloor).add eSimplest).add eQRatio
theorem awq_true:callA Tryz.prog ⟨CAwQ sg0 xg0 sq0,Kall,noL⟩ 10 10 5 []=some (.val (.bool true)):=by
 rw [awq_tree]
 have hfr:∀ x y,sq0.fr x y=Rat.divInt x y:=fun x y=>rfl
 have hsp:∀ x y,sq0.sp x y=simp2 x y:=fun x y=>rfl
 have hse:∀ x y:Rat,sq0.se x y=if y < x then 8 else 0:=fun x y=>rfl
 have hfl:∀ x,sq0.fl x=x.floor:=fun x=>rfl
 have s1:simp2 (Rat.divInt 1 3) (Rat.divInt 2 5)=Rat.divInt 1 3:=by decide +kernel
 have s2:simp2 (Rat.divInt 5 17) (Rat.divInt 6 17)=Rat.divInt 1 3:=by decide +kernel
 have s3:¬ Rat.divInt 2 5 < Rat.divInt 1 3:=by decide +kernel
 have s4:¬ Rat.divInt 6 17 < Rat.divInt 5 17:=by decide +kernel
 have s5:(Rat.divInt 6 (-4)).floor= -2:=by decide +kernel
 have s6:xg0.sb (-2)=true:=rfl
 have s7:xg0.sv (-2)= -2:=rfl
 have s8:xg0.de (-4)=0:=rfl
 obtain ⟨r1,r2,r3⟩:=rat_big (q:=Rat.divInt 6 (-4)) (b:=true) (n:= [3]) (d:= [2]) (by decide +kernel) (by decide +kernel) (by unfold Lead;decide) (by decide +kernel) (by decide +kernel) (by unfold Lead;decide)
 obtain ⟨q1,q2,q3⟩:=rat_big (q:=Rat.divInt 1 3) (b:=false) (n:= [1]) (d:= [3]) (by decide +kernel) (by decide +kernel) (by unfold Lead;decide) (by decide +kernel) (by decide +kernel) (by unfold Lead;decide)
 have o1:sg0.ok (sg0.ms (-2))=true:=ok_ms (by have:=bs_le (n:=2) (m:=1) (by decide);show bs 2≤_;omega)
 have o3:sq0.ok (sq0.qs (Rat.divInt 6 (-4))) (sq0.qd (Rat.divInt 6 (-4)))=true:=ok_rat (by have:=szq_tiny (x:=6) (y:= -4) (by decide) (by decide) (by decide);omega)
 simp only [qv_rat,hfr,hsp,hse,hfl,s1,s2,if_neg s3,if_neg s4,s5,val_ms]
 rw [oks_tiny (x:=1) (y:=3) (by decide) (by decide) (by decide),oks_tiny (x:=2) (y:=5) (by decide) (by decide) (by decide),oks_tiny (x:=5) (y:=17) (by decide) (by decide) (by decide),oks_tiny (x:=6) (y:=17) (by decide) (by decide) (by decide),o3,o1,s6,s7,s8,r1,r2,r3,q1,q2,q3]
 rfl
def tAwakeQ:TF:=fun args=>match args with | []=>some (true, .val (.bool true)) | _=>none
theorem eAwakeQ:Entry Tryz.prog 5 tAwakeQ:=entry_of CAwQ_ok loops_none mixed (by kernel_rfl) (fun args r h=>by
 unfold tAwakeQ at h
 split at h
 ·cases h;exact awq_true
 ·cases h)
end
end Go.Proofs.YtibaendebbicjaaGreat.L
namespace Go.Proofs.YtibaendebbicjaaGreat.L
open Go Go.V Go.RowKit Go.Proofs.YtibaendebbicjaaGreat.Sp Go.Proofs.YtibaendebbicjaaGreat.F
open Go.Proofs (Tryz.prog)
noncomputable section
theorem eqQ {x y:Rat} (h:x=y):(sq0.qn x==sq0.qn y&&(strEq (sq0.qs x) (sq0.qs y)&&(strEq (sq0.qd x) (sq0.qd y)&&true)))=true:=by rw [rat_eq_iff,decide_eq_true h]
theorem arg_rat (B:Nat→Prop) (w:World) (b:Bool) (n d:ByteArray):(AV.agg [.val (.bool b), .val (.string n), .val (.string d)]).Rel Tryz.prog NoA B w NoD (.agg #[.bool b, .string n, .string d]):= ⟨_,rfl,_,_,rfl,rfl,_,_,rfl,rfl,_,_,rfl,rfl,rfl⟩
theorem qoks_in {n d:ByteArray} (h1:n.size≤1073741824) (h2:d.size≤1073741824):sq0.oks n d=true:=by
 show (decide _&&decide _)=true
 rw [decide_eq_true h1,decide_eq_true h2];rfl
end
end Go.Proofs.YtibaendebbicjaaGreat.L
