import Derived.Test.YtibaendebbicjaaGreatZL
import Derived.Shelf.Strings.Search1
import Derived.Test.YtibaendebbicjaaGreatZQB
import Derived.Test.YtibaendebbicjaaGreatZYA
import Derived.Test.YtibaendebbicjaaGreatZYB
import Derived.Test.YtibaendebbicjaaGreatZUA
set_option linter.unusedVariables false
set_option linter.unusedSimpArgs false
namespace Go.Proofs.YtibaendebbicjaaGreat.L
open Go Go.V Go.RowKit Go.Shelf Go.Proofs.YtibaendebbicjaaGreat.Sp
open Go.Proofs (Tryz.prog)
noncomputable section
def rhoI:Ren:= ⟨fun n=>bif n==217 then 94 else 114,fun t=>bif t==3 then 3 else bif t==5 then 5 else 9,fun g=>g⟩
theorem laysI:Lays.n217 Tryz.prog rhoI where
 mixed:=mixed
 f217:=by kernel_rfl
 f266:=by kernel_rfl
 t3:=by kernel_rfl
 a3:=fun w=>by kernel_rfl
 z3:=fun w=>by kernel_rfl
 v3:=fun w=>by kernel_rfl
 t5:=by kernel_rfl
 a5:=fun w=>by kernel_rfl
 z5:=fun w=>by kernel_rfl
 v5:=fun w=>by kernel_rfl
 t9:=by kernel_rfl
 a9:=fun w=>by kernel_rfl
 z9:=fun w=>by kernel_rfl
 v9:=fun w=>by kernel_rfl
def ixB (s:ByteArray) (c:Int):Int:=Go.Lib.indexByte s.data.toList c.toNat.toUInt8
def tIdx (ix:ByteArray→Int→Int):List AV→Option (Bool×AV):=fun args=>match args with | [.val (.string s), .val (.int .u8 c)]=>some (true, .val (.int .i64 (ix s c))) | _=>none
theorem eIdx:Entry Tryz.prog 94 (tIdx ixB):=by
 intro args r h
 unfold tIdx at h
 split at h
 ·rename_i s c
  simp only [Option.some.injEq,Prod.mk.injEq,true_and] at h
  subst h
  intro B w xs hB hx
  obtain ⟨y,zs,e,h1,y2,zs2,rfl,h2,h3⟩:=hx
  have h3:zs2= []:=h3
  subst h3
  have h1:y= .string s:=h1
  have h2:y2= .int .u8 c:=h2
  subst h1 h2
  have e2:xs= #[.string s, .int .u8 c]:=by cases xs;simp_all
  subst e2
  refine (Any.stringslite_IndexByte laysI s c w).mono ?_
  rintro e w' ⟨rfl,rfl⟩
  exact ⟨_,rfl,Below.refl _ _,rfl⟩
 ·cases h
end
end Go.Proofs.YtibaendebbicjaaGreat.L
namespace Go.Proofs.YtibaendebbicjaaGreat.L
open Go Go.V Go.RowKit Go.Proofs.YtibaendebbicjaaGreat.Sp Go.Proofs.YtibaendebbicjaaGreat.F
open Go.Proofs (Tryz.prog)
noncomputable section
def CqP (S:Sg) (Z:Qg) (tx:Int→ByteArray):FuncId→TF:=addC 21 (tQParts S Z) (addC 23 (tPrt S tx) (addC 38 (tCompare S) (addC 26 (tOf S) noC)))
theorem qprint_tree (S:Sg) (Z:Qg) (tx:Int→ByteArray) (b:Bool) (n d:ByteArray):callA Tryz.prog ⟨CqP S Z tx,fun _=>false,noL⟩ 10 10 8 [.agg [.val (.bool b), .val (.string n), .val (.string d)]]=
  (bif Z.ok n d then (bif S.ok (S.ms (Z.de (Z.qv b n d)))&&S.ok (S.ms (1:Int)) then (bif decide (S.cmz (S.val (S.ng (Z.de (Z.qv b n d))) (S.ms (Z.de (Z.qv b n d)))) (S.val (S.ng (1:Int)) (S.ms (1:Int)))=(0:Int)) then (bif okt (S.ms (Z.nu (Z.qv b n d))) then some (.val (.string (tx (S.val (S.ng (Z.nu (Z.qv b n d))) (S.ms (Z.nu (Z.qv b n d))))))) else none) else (bif okt (S.ms (Z.nu (Z.qv b n d))) then (bif decide ((tx (S.val (S.ng (Z.nu (Z.qv b n d))) (S.ms (Z.nu (Z.qv b n d))))).size+(1:Nat)≤(9223372036854775807:Nat)) then (bif okt (S.ms (Z.de (Z.qv b n d))) then (bif decide ((strCat (tx (S.val (S.ng (Z.nu (Z.qv b n d))) (S.ms (Z.nu (Z.qv b n d))))) (ByteArray.mk #[(47:UInt8)])).size+(tx (S.val (S.ng (Z.de (Z.qv b n d))) (S.ms (Z.de (Z.qv b n d))))).size≤(9223372036854775807:Nat)) then some (.val (.string (strCat (strCat (tx (S.val (S.ng (Z.nu (Z.qv b n d))) (S.ms (Z.nu (Z.qv b n d))))) (ByteArray.mk #[(47:UInt8)])) (tx (S.val (S.ng (Z.de (Z.qv b n d))) (S.ms (Z.de (Z.qv b n d)))))))) else none) else none) else none) else none)) else none) else none):=by kernel_rfl
def tQPrt (Z:Qg) (qx:Rat→ByteArray):TF:=fun args=>match args with | [.agg [.val (.bool b), .val (.string n), .val (.string d)]]=>some (decide (n.size≤100000)&&decide (d.size≤100000), .val (.string (qx (Z.qv b n d)))) | _=>none
def CqA (S:Sg) (X:Xg) (Z:Qg) (qx:Rat→ByteArray) (pv pk:ByteArray→Int) (ix:ByteArray→Int→Int):FuncId→TF:=addC 16 (tPrs S pv pk) (addC 17 (tQNew S X Z) (addC 8 (tQPrt Z qx) (addC 94 (tIdx ix) noC)))
theorem qparse_tree (S:Sg) (X:Xg) (Z:Qg) (qx:Rat→ByteArray) (pv pk:ByteArray→Int) (ix:ByteArray→Int→Int) (s:ByteArray):letI q_6:=(strSub s (0:Nat) (ix s (47:Int)).toNat);letI q_4:=(strSub s (ix s (47:Int)+(1:Int)).toNat s.size);letI q_1:=(Z.fr (S.val (S.ng (pv q_6)) (S.ms (pv q_6))) (S.val (S.ng (pv q_4)) (S.ms (pv q_4))));letI q_7:=(strSub s (1:Nat) s.size);letI q_2:=(Z.fr (S.val (S.ng (pv (strSub s (0:Nat) (0:Nat)))) (S.ms (pv (strSub s (0:Nat) (0:Nat))))) (S.val (S.ng (pv q_7)) (S.ms (pv q_7))));letI q_5:=(ByteArray.mk #[(49:UInt8)]);letI q_3:=(Z.fr (S.val (S.ng (pv s)) (S.ms (pv s))) (S.val (S.ng (pv q_5)) (S.ms (pv q_5))));
  (callA Tryz.prog ⟨CqA S X Z qx pv pk ix,fun _=>false,noL⟩ 10 10 6 [.val (.string s)]=(bif decide ((65536:Int) < (↑s.size:Int)) then some (.tup [(.agg [(.val (.bool false)),(.val (.string (ByteArray.mk #[]))),(.val (.string (ByteArray.mk #[])))]),(.val (.int .i64 4))]) else (bif strEq (ByteArray.mk #[(47:UInt8)]) s then (bif decide ((1:Int)≤(↑s.size:Int)) then (bif !decide (pk (strSub s (0:Nat) (0:Nat))=(0:Int)) then some (.tup [(.agg [(.val (.bool false)),(.val (.string (ByteArray.mk #[]))),(.val (.string (ByteArray.mk #[])))]),(.val (.int .i64 3))]) else (bif !decide (pk q_7=(0:Int)) then some (.tup [(.agg [(.val (.bool false)),(.val (.string (ByteArray.mk #[]))),(.val (.string (ByteArray.mk #[])))]),(.val (.int .i64 3))]) else (bif S.ok (S.ms (pv (strSub s (0:Nat) (0:Nat))))&&S.ok (S.ms (pv q_7)) then (bif !decide (X.de (S.val (S.ng (pv q_7)) (S.ms (pv q_7)))=(0:Int)) then some (.tup [(.agg [(.val (.bool false)),(.val (.string (ByteArray.mk #[]))),(.val (.string (ByteArray.mk #[])))]),(.val (.int .i64 3))]) else (bif decide ((Z.qs q_2).size≤(100000:Nat))&&decide ((Z.qd q_2).size≤(100000:Nat)) then (bif !strEq (qx (Z.qv (Z.qn q_2) (Z.qs q_2) (Z.qd q_2))) s then some (.tup [(.agg [(.val (.bool false)),(.val (.string (ByteArray.mk #[]))),(.val (.string (ByteArray.mk #[])))]),(.val (.int .i64 3))]) else some (.tup [(.agg [(.val (.bool (Z.qn q_2))),(.val (.string (Z.qs q_2))),(.val (.string (Z.qd q_2)))]),(.val (.int .i64 0))])) else none)) else none))) else none) else (bif decide ((0:Int)≤ix s (47:Int)) then (bif decide ((0:Int)≤ix s (47:Int))&&decide (ix s (47:Int)≤(↑s.size:Int)) then (bif inR IntKind.i64 (ix s (47:Int)+(1:Int)) then (bif decide ((0:Int)≤ix s (47:Int)+(1:Int))&&decide (ix s (47:Int)+(1:Int)≤(↑s.size:Int)) then (bif !decide (pk q_6=(0:Int)) then some (.tup [(.agg [(.val (.bool false)),(.val (.string (ByteArray.mk #[]))),(.val (.string (ByteArray.mk #[])))]),(.val (.int .i64 3))]) else (bif !decide (pk q_4=(0:Int)) then some (.tup [(.agg [(.val (.bool false)),(.val (.string (ByteArray.mk #[]))),(.val (.string (ByteArray.mk #[])))]),(.val (.int .i64 3))]) else (bif S.ok (S.ms (pv q_6))&&S.ok (S.ms (pv q_4)) then (bif !decide (X.de (S.val (S.ng (pv q_4)) (S.ms (pv q_4)))=(0:Int)) then some (.tup [(.agg [(.val (.bool false)),(.val (.string (ByteArray.mk #[]))),(.val (.string (ByteArray.mk #[])))]),(.val (.int .i64 3))]) else (bif decide ((Z.qs q_1).size≤(100000:Nat))&&decide ((Z.qd q_1).size≤(100000:Nat)) then (bif !strEq (qx (Z.qv (Z.qn q_1) (Z.qs q_1) (Z.qd q_1))) s then some (.tup [(.agg [(.val (.bool false)),(.val (.string (ByteArray.mk #[]))),(.val (.string (ByteArray.mk #[])))]),(.val (.int .i64 3))]) else some (.tup [(.agg [(.val (.bool (Z.qn q_1))),(.val (.string (Z.qs q_1))),(.val (.string (Z.qd q_1)))]),(.val (.int .i64 0))])) else none)) else none))) else none) else none) else none) else (bif !decide (pk s=(0:Int)) then some (.tup [(.agg [(.val (.bool false)),(.val (.string (ByteArray.mk #[]))),(.val (.string (ByteArray.mk #[])))]),(.val (.int .i64 3))]) else (bif !decide (pk q_5=(0:Int)) then some (.tup [(.agg [(.val (.bool false)),(.val (.string (ByteArray.mk #[]))),(.val (.string (ByteArray.mk #[])))]),(.val (.int .i64 3))]) else (bif S.ok (S.ms (pv s))&&S.ok (S.ms (pv q_5)) then (bif !decide (X.de (S.val (S.ng (pv q_5)) (S.ms (pv q_5)))=(0:Int)) then some (.tup [(.agg [(.val (.bool false)),(.val (.string (ByteArray.mk #[]))),(.val (.string (ByteArray.mk #[])))]),(.val (.int .i64 3))]) else (bif decide ((Z.qs q_3).size≤(100000:Nat))&&decide ((Z.qd q_3).size≤(100000:Nat)) then (bif !strEq (qx (Z.qv (Z.qn q_3) (Z.qs q_3) (Z.qd q_3))) s then some (.tup [(.agg [(.val (.bool false)),(.val (.string (ByteArray.mk #[]))),(.val (.string (ByteArray.mk #[])))]),(.val (.int .i64 3))]) else some (.tup [(.agg [(.val (.bool (Z.qn q_3))),(.val (.string (Z.qs q_3))),(.val (.string (Z.qd q_3)))]),(.val (.int .i64 0))])) else none)) else none))))))):=by kernel_rfl
end
end Go.Proofs.YtibaendebbicjaaGreat.L
namespace Go.Proofs.YtibaendebbicjaaGreat.L
open Go Go.V Go.RowKit Go.Proofs.YtibaendebbicjaaGreat.Sp Go.Proofs.YtibaendebbicjaaGreat.F
open Go.Proofs (Tryz.prog)
noncomputable section
def qxt (q:Rat):ByteArray:=if q.den=1 then txt q.num else strCat (strCat (txt q.num) (ByteArray.mk #[47])) (txt (q.den:Int))
theorem txt_size (z:Int):(txt z).size≤dl z.natAbs+1:=by
 by_cases h:z=0
 ·rw [h];exact Nat.le_refl _
 ·obtain ⟨_,_,h3⟩:=txt_parts h
  rw [h3]
  split <;> omega
theorem txt_size2 (z:Int):dl z.natAbs≤(txt z).size:=by
 by_cases h:z=0
 ·rw [h];exact Nat.zero_le _
 ·obtain ⟨_,_,h3⟩:=txt_parts h
  rw [h3]
  split <;> omega
theorem dl_bs (n:Nat):dl n≤9*bs n:=by
 refine dl_le (Nat.lt_of_lt_of_le (bs_lt n) ?_)
 rw [Nat.pow_mul]
 exact Nat.pow_le_pow_left (by decide) _
theorem size_cat (a b:ByteArray):(strCat a b).size=a.size+b.size:=by
 show ((a.data.toList ++ b.data.toList).toArray).size=_
 rw [List.size_toArray,List.length_append,Array.length_toList,Array.length_toList];rfl
theorem CqP_ok:Meets Tryz.prog (CqP sg0 sq0 txt):=((((meets_none _).add eOf).add eCompare).add ePrint).add eQParts
theorem cmz_one (n:Nat):sg0.cmz ((n:Nat):Int) 1=0↔n=1:=by
 show cmpZ ((n:Nat):Int) 1=0↔_
 unfold cmpZ
 by_cases h:((n:Nat):Int) < 1
 ·rw [if_pos h];exact ⟨fun k=>absurd k (by decide),fun k=>by omega⟩
 ·rw [if_neg h]
  by_cases h2:(1:Int) < ((n:Nat):Int)
  ·rw [if_pos h2];exact ⟨fun k=>absurd k (by decide),fun k=>by omega⟩
  ·rw [if_neg h2];exact ⟨fun _=>by omega,fun _=>rfl⟩
theorem okt_ms {z:Int} (h:bs z.natAbs≤1000000):okt (sg0.ms z)=true:=decide_eq_true (by rw [size_ms];exact h)
theorem eQPrint:Entry Tryz.prog 8 (tQPrt sq0 qxt):=by
 refine entry_of (E:= ⟨CqP sg0 sq0 txt,fun _=>false,noL⟩) (u:=10) (d:=10) CqP_ok loops_none mixed (by kernel_rfl) (fun args r h=> ?_)
 unfold tQPrt at h
 split at h
 ·rename_i b n d
  simp only [Option.some.injEq,Prod.mk.injEq,Bool.and_eq_true,decide_eq_true_eq] at h
  obtain ⟨⟨h1,h2⟩,rfl⟩:=h
  have hz:=szq_val b n d
  have hcall:=qprint_tree sg0 sq0 txt b n d
  have hnu:∀ q,sq0.nu q=q.num:=fun q=>rfl
  have hde:∀ q,sq0.de q=(q.den:Int):=fun q=>rfl
  simp only [hnu,hde,val_ms] at hcall
  rw [hcall,qok_in (by omega) (by omega)]
  generalize sq0.qv b n d=q at*
  have b1:bs q.num.natAbs≤szq q:=Nat.le_max_left _ _
  have b2:bs q.den≤szq q:=Nat.le_max_right _ _
  have b3:bs ((q.den:Int)).natAbs≤szq q:=b2
  have b4:bs (1:Int).natAbs≤1:=bs_le (by decide)
  have s1:=txt_size q.num
  have s2:=txt_size (q.den:Int)
  have s3:=dl_bs q.num.natAbs
  have s4:=dl_bs ((q.den:Int)).natAbs
  rw [ok_ms (z:=(q.den:Int)) (by omega),ok_ms (z:=1) (by omega),okt_ms (z:=q.num) (by omega),okt_ms (z:=(q.den:Int)) (by omega),size_cat,dT (show (txt q.num).size+1≤9223372036854775807 by omega),dT (show (txt q.num).size+(ByteArray.mk #[(47:UInt8)]).size+(txt (q.den:Int)).size≤9223372036854775807 by show (txt q.num).size+1+_≤_;omega)]
  unfold qxt
  by_cases hd:q.den=1
  ·rw [dT ((cmz_one _).2 hd),if_pos hd];rfl
  ·rw [dF (fun k=>hd ((cmz_one _).1 k)),if_neg hd];rfl
 ·cases h
def qE3:Option AV:=some (.tup [(.agg [(.val (.bool false)),(.val (.string (ByteArray.mk #[]))),(.val (.string (ByteArray.mk #[])))]),(.val (.int .i64 3))])
def qtail (S:Sg) (X:Xg) (Z:Qg) (qx:Rat→ByteArray) (pv pk:ByteArray→Int) (s u v:ByteArray):Option AV:=
 letI q:=Z.fr (S.val (S.ng (pv u)) (S.ms (pv u))) (S.val (S.ng (pv v)) (S.ms (pv v)))
 bif !decide (pk u=(0:Int)) then qE3 else (bif !decide (pk v=(0:Int)) then qE3 else (bif S.ok (S.ms (pv u))&&S.ok (S.ms (pv v)) then (bif !decide (X.de (S.val (S.ng (pv v)) (S.ms (pv v)))=(0:Int)) then qE3 else (bif decide ((Z.qs q).size≤(100000:Nat))&&decide ((Z.qd q).size≤(100000:Nat)) then (bif !strEq (qx (Z.qv (Z.qn q) (Z.qs q) (Z.qd q))) s then qE3 else some (.tup [(.agg [(.val (.bool (Z.qn q))),(.val (.string (Z.qs q))),(.val (.string (Z.qd q)))]),(.val (.int .i64 0))])) else none)) else none))
theorem qparse_tree2 (S:Sg) (X:Xg) (Z:Qg) (qx:Rat→ByteArray) (pv pk:ByteArray→Int) (ix:ByteArray→Int→Int) (s:ByteArray):callA Tryz.prog ⟨CqA S X Z qx pv pk ix,fun _=>false,noL⟩ 10 10 6 [.val (.string s)]=(bif decide ((65536:Int) < (s.size:Int)) then some (.tup [(.agg [(.val (.bool false)),(.val (.string (ByteArray.mk #[]))),(.val (.string (ByteArray.mk #[])))]),(.val (.int .i64 4))]) else (bif strEq (ByteArray.mk #[(47:UInt8)]) s then (bif decide ((1:Int)≤(s.size:Int)) then qtail S X Z qx pv pk s (strSub s 0 0) (strSub s 1 s.size) else none) else (bif decide ((0:Int)≤ix s (47:Int)) then (bif decide ((0:Int)≤ix s (47:Int))&&decide (ix s (47:Int)≤(s.size:Int)) then (bif inR IntKind.i64 (ix s (47:Int)+(1:Int)) then (bif decide ((0:Int)≤ix s (47:Int)+(1:Int))&&decide (ix s (47:Int)+(1:Int)≤(s.size:Int)) then qtail S X Z qx pv pk s (strSub s 0 (ix s (47:Int)).toNat) (strSub s (ix s (47:Int)+(1:Int)).toNat s.size) else none) else none) else none) else qtail S X Z qx pv pk s s (ByteArray.mk #[(49:UInt8)])))):=qparse_tree S X Z qx pv pk ix s
theorem CqA_ok:Meets Tryz.prog (CqA sg0 xg0 sq0 qxt pvT pkT ixB):=((((meets_none _).add eIdx).add eQPrint).add eQNew).add eParse
theorem bs_pv (s:ByteArray):bs (pvT s).natAbs≤s.size:=by
 by_cases h:¬ 65536 < s.size∧goodT s
 ·obtain ⟨h1,g⟩:=h
  rw [pvT_good h1 g]
  have h2:=bs_dec (vT_lt g.2.1)
  have h3:(dgsT s).size≤s.size:=by
   unfold dgsT
   cases sgnT s
   ·exact Nat.le_refl _
   ·rw [cond_true,size_sub1];omega
  have e:(sg0.sg (sgnT s) (vT (dgsT s) (dgsT s).size)).natAbs=vT (dgsT s) (dgsT s).size:=by
   show (if sgnT s=true then -((vT (dgsT s) (dgsT s).size:Nat):Int) else ((vT (dgsT s) (dgsT s).size:Nat):Int)).natAbs=_
   split <;> omega
  rw [e]
  omega
 ·have e:pvT s=0:=by
   by_cases h1:65536 < s.size
   ·exact pvT_lim h1
   ·exact pvT_bad fun g=>h ⟨h1,g⟩
  rw [e]
  have:bs (0:Int).natAbs≤0:=bs_le (by decide)
  omega
theorem qtail_eq (s u v:ByteArray) (hu:u.size≤20000) (hv:v.size≤20000):qtail sg0 xg0 sq0 qxt pvT pkT s u v= @ite _ (pkT u=0∧pkT v=0∧pvT v≠0∧qxt (Rat.divInt (pvT u) (pvT v))=s) (Classical.propDecidable _) (some (.tup [sq0.rat (Rat.divInt (pvT u) (pvT v)), .val (.int .i64 0)])) qE3:=by
 have b1:=bs_pv u
 have b2:=bs_pv v
 have hfr:∀ x y,sq0.fr x y=Rat.divInt x y:=fun x y=>rfl
 have hde:∀ y,xg0.de y=if y=0 then 10 else 0:=fun y=>rfl
 unfold qtail
 simp only [val_ms,hfr,hde,qv_rat]
 rw [ok_ms (z:=pvT u) (by omega),ok_ms (z:=pvT v) (by omega)]
 by_cases h1:pkT u=0
 ·by_cases h2:pkT v=0
  ·by_cases h3:pvT v=0
   ·rw [dT h1,dT h2,if_pos h3,if_neg (show ¬ (pkT u=0∧pkT v=0∧pvT v≠0∧qxt (Rat.divInt (pvT u) (pvT v))=s) from fun h=>h.2.2.1 h3)];rfl
   ·have z1:=szq_fr (pvT u) h3
    have z2:=size_qs (Rat.divInt (pvT u) (pvT v))
    have z3:=size_qd (Rat.divInt (pvT u) (pvT v))
    have z4:bs (Rat.divInt (pvT u) (pvT v)).num.natAbs≤szq (Rat.divInt (pvT u) (pvT v)):=Nat.le_max_left _ _
    have z5:bs (Rat.divInt (pvT u) (pvT v)).den≤szq (Rat.divInt (pvT u) (pvT v)):=Nat.le_max_right _ _
    rw [dT h1,dT h2,if_neg h3,dT (show (sq0.qs (Rat.divInt (pvT u) (pvT v))).size≤100000 by omega),dT (show (sq0.qd (Rat.divInt (pvT u) (pvT v))).size≤100000 by omega),strEq_iff]
    by_cases h4:qxt (Rat.divInt (pvT u) (pvT v))=s
    ·rw [dT h4,if_pos ⟨h1,h2,h3,h4⟩];rfl
    ·rw [dF h4,if_neg (show ¬ (pkT u=0∧pkT v=0∧pvT v≠0∧qxt (Rat.divInt (pvT u) (pvT v))=s) from fun h=>h4 h.2.2.2)];rfl
  ·rw [dT h1,dF h2,if_neg (show ¬ (pkT u=0∧pkT v=0∧pvT v≠0∧qxt (Rat.divInt (pvT u) (pvT v))=s) from fun h=>h2 h.2.1)];rfl
 ·rw [dF h1,if_neg (show ¬ (pkT u=0∧pkT v=0∧pvT v≠0∧qxt (Rat.divInt (pvT u) (pvT v))=s) from fun h=>h1 h.1)];rfl
theorem ix_none {l:List UInt8} {c:UInt8} (h:c ∉ l):Go.Lib.indexByte l c= -1:=by
 induction l with
 | nil=>rfl
 | cons b l ih=>
  unfold Go.Lib.indexByte
  have h1:(b==c)=false:=by rw [beq_eq_false_iff_ne];intro e;exact h (by rw [e];exact List.mem_cons_self)
  rw [h1,ih (fun k=>h (List.mem_cons_of_mem _ k))];rfl
theorem ix_at {l r:List UInt8} {c:UInt8} (h:c ∉ l):Go.Lib.indexByte (l ++ c :: r) c=(l.length:Nat):=by
 induction l with
 | nil=>
  show Go.Lib.indexByte (c :: r) c=_
  unfold Go.Lib.indexByte
  rw [beq_self_eq_true];rfl
 | cons b l ih=>
  show Go.Lib.indexByte (b :: (l ++ c :: r)) c=_
  unfold Go.Lib.indexByte
  have h1:(b==c)=false:=by rw [beq_eq_false_iff_ne];intro e;exact h (by rw [e];exact List.mem_cons_self)
  have h2:((l.length:Int)== -1)=false:=by rw [beq_eq_false_iff_ne];omega
  rw [h1,ih (fun k=>h (List.mem_cons_of_mem _ k)),h2]
  show ((l.length:Nat):Int)+1=((l.length+1:Nat):Int)
  omega
theorem ix_lt (l:List UInt8) (c:UInt8):Go.Lib.indexByte l c < (l.length:Int):=by
 induction l with
 | nil=>show (-1:Int) < 0;decide
 | cons b l ih=>
  unfold Go.Lib.indexByte
  rw [List.length_cons]
  split
  ·omega
  ·split
   ·omega
   ·omega
theorem ixB_lt (s:ByteArray) (c:Int):ixB s c < (s.size:Int):=by
 have:=ix_lt s.data.toList c.toNat.toUInt8
 rw [Array.length_toList] at this
 exact this
theorem no_slash (z:Int):(47:UInt8) ∉ (txt z).data.toList:=by
 intro h
 have h1:(47:Int) ∈ bytesI (txt z):=List.mem_map.2 ⟨47,h,rfl⟩
 by_cases h0:z=0
 ·rw [h0] at h1
  have e:bytesI (txt 0)= [48]:=rfl
  rw [e] at h1
  exact absurd h1 (by decide)
 ·rw [txt_ne h0,bytes_of (pre_ok _ _)] at h1
  rcases List.mem_append.1 h1 with h2 | h2
  ·split at h2
   ·rw [List.mem_singleton] at h2;exact absurd h2 (by decide)
   ·cases h2
  ·unfold rdg at h2
   obtain ⟨c,hc,e⟩:=dp_dig _ _ _ (List.mem_reverse.1 h2)
   omega
theorem cat_slash (a b:ByteArray):(strCat (strCat a (ByteArray.mk #[47])) b).data.toList=a.data.toList ++ (47:UInt8) :: b.data.toList:=by
 show (a.data.toList ++ [47]) ++ b.data.toList=_
 rw [List.append_assoc];rfl
theorem one_good:pkT (ByteArray.mk #[49])=0∧pvT (ByteArray.mk #[49])=1:=by
 have e:txt 1=ByteArray.mk #[49]:=rfl
 have h:=read_txt (z:=1) (by have:=dl_le (n:=1) (k:=1) (by decide);show dl 1≤_;omega)
 rw [e] at h
 exact ⟨h.2.2.1,h.2.1⟩
theorem ix47 (s:ByteArray):ixB s 47=Go.Lib.indexByte s.data.toList 47:=rfl
theorem qparse_good (q:Rat) (hs:(qxt q).size≤20000):callA Tryz.prog ⟨CqA sg0 xg0 sq0 qxt pvT pkT ixB,fun _=>false,noL⟩ 10 10 6 [.val (.string (qxt q))]=some (.tup [sq0.rat q, .val (.int .i64 0)]):=by
 rw [qparse_tree2,dF (show ¬ (65536:Int) < ((qxt q).size:Int) by omega)]
 by_cases hd:q.den=1
 ·have e:qxt q=txt q.num:=by unfold qxt;rw [if_pos hd]
  rw [e] at hs ⊢
  have h1:=txt_size2 q.num
  obtain ⟨_,r2,r3,_⟩:=read_txt (z:=q.num) (by omega)
  have hi:ixB (txt q.num) 47= -1:=ix_none (no_slash _)
  have hsl:strEq (ByteArray.mk #[(47:UInt8)]) (txt q.num)=false:=by
   rw [Bool.eq_false_iff]
   intro k
   rw [strEq_iff,decide_eq_true_eq] at k
   have:=no_slash q.num
   rw [← k] at this
   exact this List.mem_cons_self
  have hq:Rat.divInt q.num 1=q:=by
   have:=Rat.num_divInt_den q
   rw [hd] at this
   exact this
  rw [hsl,hi,dF (show ¬ (0:Int)≤ -1 by decide)]
  show qtail sg0 xg0 sq0 qxt pvT pkT (txt q.num) (txt q.num) (ByteArray.mk #[(49:UInt8)])=_
  rw [qtail_eq _ _ _ hs (by decide),if_pos ⟨r3,one_good.1,by rw [one_good.2];decide,by rw [r2,one_good.2,hq,e]⟩,r2,one_good.2,hq]
 ·have e:qxt q=strCat (strCat (txt q.num) (ByteArray.mk #[47])) (txt (q.den:Int)):=by unfold qxt;rw [if_neg hd]
  have hl:=cat_slash (txt q.num) (txt (q.den:Int))
  rw [← e] at hl
  have hsz:(qxt q).size=(txt q.num).size+1+(txt (q.den:Int)).size:=by rw [e,size_cat,size_cat];rfl
  have h1:=txt_size2 q.num
  have h2:=txt_size2 (q.den:Int)
  obtain ⟨_,r2,r3,_⟩:=read_txt (z:=q.num) (by omega)
  obtain ⟨_,t2,t3,_⟩:=read_txt (z:=(q.den:Int)) (by omega)
  have hi:ixB (qxt q) 47=((txt q.num).size:Nat):=by
   rw [ix47,hl,ix_at (no_slash _),Array.length_toList];rfl
  have hln:(txt q.num).data.toList.length=(txt q.num).size:=by rw [Array.length_toList];rfl
  have hld:(txt (q.den:Int)).data.toList.length=(txt (q.den:Int)).size:=by rw [Array.length_toList];rfl
  have u1:strSub (qxt q) 0 (txt q.num).size=txt q.num:=by
   apply bytes_ext
   show ((qxt q).data.toList.drop 0).take ((txt q.num).size - 0)=_
   rw [List.drop_zero,Nat.sub_zero,hl]
   exact List.take_left' hln
  have v1:strSub (qxt q) ((txt q.num).size+1) (qxt q).size=txt (q.den:Int):=by
   apply bytes_ext
   show ((qxt q).data.toList.drop ((txt q.num).size+1)).take ((qxt q).size - ((txt q.num).size+1))=_
   have:(qxt q).data.toList=((txt q.num).data.toList ++ [47]) ++ (txt (q.den:Int)).data.toList:=by rw [hl,List.append_assoc];rfl
   rw [this,List.drop_left' (by rw [List.length_append,hln];rfl)]
   exact List.take_of_length_le (by rw [hld,hsz];omega)
  have hne:0 < (txt q.num).size:=by
   by_cases h:q.num=0
   ·rw [h];exact (by decide:0 < 1)
   ·have:=dl_pos (show q.num.natAbs≠0 by omega);omega
  have hsl:strEq (ByteArray.mk #[(47:UInt8)]) (qxt q)=false:=by
   rw [Bool.eq_false_iff]
   intro k
   rw [strEq_iff,decide_eq_true_eq] at k
   have k2:(qxt q).size=1:=by rw [← k];rfl
   omega
  have hdp:=q.den_pos
  have et:((((txt q.num).size:Nat):Int)+1).toNat=(txt q.num).size+1:=by omega
  rw [hsl,hi,Int.toNat_natCast,et,u1,v1,dT (show (0:Int)≤((txt q.num).size:Int) by omega),dT (show (((txt q.num).size:Nat):Int)≤((qxt q).size:Int) by omega),i64T (z:=(((txt q.num).size:Nat):Int)+1) (by omega),dT (show (0:Int)≤(((txt q.num).size:Nat):Int)+1 by omega),dT (show (((txt q.num).size:Nat):Int)+1≤((qxt q).size:Int) by omega)]
  show qtail sg0 xg0 sq0 qxt pvT pkT (qxt q) (txt q.num) (txt (q.den:Int))=_
  rw [qtail_eq _ _ _ (by omega) (by omega),r2,t2,Rat.num_divInt_den,if_pos ⟨r3,t3,by omega,rfl⟩]
theorem qparse_bad (s:ByteArray) (hs:s.size≤20000) (hn:¬ ∃ q,qxt q=s):callA Tryz.prog ⟨CqA sg0 xg0 sq0 qxt pvT pkT ixB,fun _=>false,noL⟩ 10 10 6 [.val (.string s)]=qE3:=by
 have sub_le:∀ a b,(strSub s a b).size≤s.size:=fun a b=>by
  show (((s.data.toList.drop a).take (b - a)).toArray).size≤_
  rw [List.size_toArray,List.length_take,List.length_drop,Array.length_toList]
  show min _ (s.size - a)≤_
  omega
 have t3:∀ u v:ByteArray,u.size≤20000→v.size≤20000→qtail sg0 xg0 sq0 qxt pvT pkT s u v=qE3:=fun u v hu hv=>by
  rw [qtail_eq _ _ _ hu hv,if_neg (fun h=>hn ⟨_,h.2.2.2⟩)]
 rw [qparse_tree2,dF (show ¬ (65536:Int) < (s.size:Int) by omega),t3 _ _ (Nat.le_trans (sub_le _ _) hs) (Nat.le_trans (sub_le _ _) hs),t3 _ _ (Nat.le_trans (sub_le _ _) hs) (Nat.le_trans (sub_le _ _) hs),t3 _ _ hs (by decide)]
 by_cases h1:strEq (ByteArray.mk #[(47:UInt8)]) s=true
 ·have h2:s=ByteArray.mk #[47]:=by
   rw [strEq_iff,decide_eq_true_eq] at h1
   exact h1.symm
  rw [h1,h2];rfl
 ·rw [Bool.not_eq_true] at h1
  rw [h1]
  have hlt:=ixB_lt s 47
  by_cases h2:(0:Int)≤ixB s 47
  ·rw [dT h2,dT (show ixB s 47≤(s.size:Int) by omega),i64T (z:=ixB s 47+1) (by omega),dT (show (0:Int)≤ixB s 47+1 by omega),dT (show ixB s 47+1≤(s.size:Int) by omega)];rfl
  ·rw [dF h2];rfl
def pqT (s:ByteArray):Rat:= @dite _ (∃ q,qxt q=s) (Classical.propDecidable _) (fun h=>Classical.choose h) (fun _=>0)
def kqT (s:ByteArray):Int:= @ite _ (∃ q,qxt q=s) (Classical.propDecidable _) 0 3
theorem pq_bad {s:ByteArray} (h:¬ ∃ q,qxt q=s):pqT s=0∧kqT s=3:= ⟨dif_neg h,if_neg h⟩
theorem pq_good {s:ByteArray} (h:∃ q,qxt q=s):qxt (pqT s)=s∧kqT s=0:=by
 refine ⟨?_,if_pos h⟩
 unfold pqT
 rw [dif_pos h]
 exact Classical.choose_spec h
theorem rat_inj {x y:Rat} (h:sq0.rat x=sq0.rat y):x=y:=by
 unfold Qg.rat at h
 simp only [AV.agg.injEq,List.cons.injEq,AV.val.injEq,Value.bool.injEq,Value.string.injEq,and_true] at h
 obtain ⟨e1,e2,e3⟩:=h
 rw [← qv_rat x,e1,e2,e3,qv_rat]
theorem pq_qxt {q:Rat} (hs:(qxt q).size≤20000):pqT (qxt q)=q∧kqT (qxt q)=0:=by
 obtain ⟨h1,h2⟩:=pq_good (s:=qxt q) ⟨q,rfl⟩
 refine ⟨?_,h2⟩
 have a1:=qparse_good q hs
 have a2:=qparse_good (pqT (qxt q)) (by rw [h1];exact hs)
 rw [h1,a1] at a2
 simp only [Option.some.injEq,AV.tup.injEq,List.cons.injEq,and_true] at a2
 exact (rat_inj a2).symm
def tQPrs (Z:Qg) (pq:ByteArray→Rat) (kq:ByteArray→Int):TF:=fun args=>match args with | [.val (.string s)]=>some (decide (s.size≤20000), .tup [Z.rat (pq s), .val (.int .i64 (kq s))]) | _=>none
theorem eQParse:Entry Tryz.prog 6 (tQPrs sq0 pqT kqT):=by
 refine entry_of (E:= ⟨CqA sg0 xg0 sq0 qxt pvT pkT ixB,fun _=>false,noL⟩) (u:=10) (d:=10) CqA_ok loops_none mixed (by kernel_rfl) (fun args r h=> ?_)
 unfold tQPrs at h
 split at h
 ·rename_i s
  simp only [Option.some.injEq,Prod.mk.injEq,decide_eq_true_eq] at h
  obtain ⟨h1,rfl⟩:=h
  by_cases hq:∃ q,qxt q=s
  ·obtain ⟨q,rfl⟩:=hq
   rw [(pq_qxt h1).1,(pq_qxt h1).2]
   exact qparse_good q h1
  ·rw [(pq_bad hq).1,(pq_bad hq).2,qparse_bad s h1 hq,rat_zero];rfl
 ·cases h
end
end Go.Proofs.YtibaendebbicjaaGreat.L
namespace Go.Proofs.YtibaendebbicjaaGreat.L
open Go Go.V Go.RowKit Go.Proofs.YtibaendebbicjaaGreat.Sp Go.Proofs.YtibaendebbicjaaGreat.F
open Go.Proofs (Tryz.prog)
noncomputable section
abbrev p_ls:List Bool:= [false,true,false,true,true,true]
def sh_ls (s:ByteArray) (a:Int) (i:Int) (rb:Bool) (rn:ByteArray) (rd:ByteArray):List AV:=slots 72 [(0, .val (.string s)),(2, .ptr 0 0),(4, .val (.int .i64 a)),(5, .val (.int .i64 i))]
def hp_ls (s:ByteArray) (a:Int) (i:Int) (rb:Bool) (rn:ByteArray) (rd:ByteArray):Hp:= [.row (.cells [.val (.bool rb), .val (.string rn), .val (.string rd)]) 23 .live]
theorem body_ls:subC Tryz.prog 7 p_ls=some (.loop (lb 7 p_ls)):=by kernel_rfl
theorem code_ls:subC Tryz.prog 7 (false :: p_ls)=some (lb 7 p_ls):=by kernel_rfl
theorem round_ls (s:ByteArray) (a:Int) (i:Int) (rb:Bool) (rn:ByteArray) (rd:ByteArray):roundA Tryz.prog EL0 7 [0,2,4,5] (lb 7 p_ls) (false :: p_ls) (sh_ls s a i rb rn rd) (hp_ls s a i rb rn rd)=
  (bif decide (i < (↑s.size:Int)) then (bif decide ((0:Int)≤i)&&decide (i < (↑s.size:Int)) then (bif decide (byteAt s i.toNat=(47:Int)) then (bif inR IntKind.i64 (i+(1:Int)) then some (.normal,slots 72 [(0,(.val (.string s))),(2,(.ptr 0 0)),(4,(.val (.int .i64 i))),(5,(.val (.int .i64 (i+(1:Int)))))], [(.row (.cells [(.val (.bool rb)),(.val (.string rn)),(.val (.string rd))]) 23 .live)]) else none) else (bif inR IntKind.i64 (i+(1:Int)) then some (.normal,slots 72 [(0,(.val (.string s))),(2,(.ptr 0 0)),(4,(.val (.int .i64 a))),(5,(.val (.int .i64 (i+(1:Int)))))], [(.row (.cells [(.val (.bool rb)),(.val (.string rn)),(.val (.string rd))]) 23 .live)]) else none)) else none) else some ((.exit 0),slots 72 [(0,(.val (.string s))),(2,(.ptr 0 0)),(4,(.val (.int .i64 a))),(5,(.val (.int .i64 i)))], [(.row (.cells [(.val (.bool rb)),(.val (.string rn)),(.val (.string rd))]) 23 .live)])):=by kernel_rfl
theorem step_ls {s:ByteArray} {a:Int} {i:Int} {rb:Bool} {rn:ByteArray} {rd:ByteArray} {e:Ex} {T:List AV} {H:Hp} (h:roundA Tryz.prog EL0 7 [0,2,4,5] (lb 7 p_ls) (false :: p_ls) (sh_ls s a i rb rn rd) (hp_ls s a i rb rn rd)=some (e,T,H)):V.Ends Tryz.prog false 0 0 (lb 7 p_ls) (sh_ls s a i rb rn rd) (hp_ls s a i rb rn rd) e T H:=
 round_ends (meets_none _) loops_none mixed code_ls h
def pre_ls (s:ByteArray) (a i:Int) (rb:Bool) (rn rd:ByteArray):Prop:=a=s.size∧i=0∧s.size≤100000
def lastS (s:ByteArray) (i a:Nat):Prop:=(a=s.size∧∀ j,j < i→byteAt s j≠47)∨(a < i∧byteAt s a=47∧∀ j,a < j→j < i→byteAt s j≠47)
def post_ls (s:ByteArray) (a i:Int) (rb:Bool) (rn rd:ByteArray) (ρ:Int×Int):Prop:=∃ a:Nat,ρ.1=a∧a≤s.size∧lastS s s.size a
theorem ls_go (s:ByteArray) (rb:Bool) (rn rd:ByteArray) (hs:s.size≤100000) (r:Nat):∀ i a:Nat,i+r=s.size→a≤s.size→lastS s i a→∃ ρ:Int×Int,LoopTo Tryz.prog (lb 7 p_ls) (sh_ls s a i rb rn rd) (hp_ls s a i rb rn rd) (.exit 0) (sh_ls s ρ.1 ρ.2 rb rn rd) (hp_ls s ρ.1 ρ.2 rb rn rd)∧post_ls s a i rb rn rd ρ:=by
 induction r with
 | zero=>
  intro i a hi ha hl
  have hi':i=s.size:=by omega
  subst hi'
  refine ⟨((a:Int),(s.size:Int)), .last (step_ls ?_) (by intro h;cases h),a,rfl,ha,hl⟩
  rw [round_ls,dF (show ¬ ((s.size:Nat):Int) < (s.size:Int) by omega)]
  rfl
 | succ r ih=>
  intro i a hi ha hl
  have hr:=round_ls s a i rb rn rd
  rw [Int.toNat_natCast,dT (show (i:Int) < (s.size:Int) by omega),dT (show (0:Int)≤(i:Int) by omega),i64T (z:=(i:Int)+1) (by omega)] at hr
  by_cases h:byteAt s i=47
  ·rw [dT h] at hr
   obtain ⟨ρ,k1,k2⟩:=ih (i+1) i (by omega) (by omega) (.inr ⟨by omega,h,fun j h1 h2=>by omega⟩)
   exact ⟨ρ, .more (step_ls hr) k1,k2⟩
  ·rw [dF h] at hr
   have hl2:lastS s (i+1) a:=by
    rcases hl with ⟨h1,h2⟩ | ⟨h1,h2,h3⟩
    ·refine .inl ⟨h1,fun j hj=> ?_⟩
     by_cases e:j=i
     ·rw [e];exact h
     ·exact h2 j (by omega)
    ·refine .inr ⟨by omega,h2,fun j h4 h5=> ?_⟩
     by_cases e:j=i
     ·rw [e];exact h
     ·exact h3 j h4 (by omega)
   obtain ⟨ρ,k1,k2⟩:=ih (i+1) a (by omega) ha hl2
   exact ⟨ρ, .more (step_ls hr) k1,k2⟩
theorem loop_ls (s:ByteArray) (a i:Int) (rb:Bool) (rn rd:ByteArray) (h:pre_ls s a i rb rn rd):∃ ρ:Int×Int,LoopTo Tryz.prog (lb 7 p_ls) (sh_ls s a i rb rn rd) (hp_ls s a i rb rn rd) (.exit 0) (sh_ls s ρ.1 ρ.2 rb rn rd) (hp_ls s ρ.1 ρ.2 rb rn rd)∧post_ls s a i rb rn rd ρ:=by
 obtain ⟨rfl,rfl,hs⟩:=h
 exact ls_go s rb rn rd hs s.size 0 s.size (by omega) (Nat.le_refl _) (.inl ⟨rfl,fun j hj=>by omega⟩)
def told_ls (κ:ByteArray→Int→Int→Bool→ByteArray→ByteArray→Bool) (φ:ByteArray→Int→Int→Bool→ByteArray→ByteArray→Int×Int) (T:List AV) (H:Hp):Option (Bool×Ex×List AV×Hp):=
 match lget T 0,lget T 2,lget T 4,lget T 5,H with
 | .val (.string s), .ptr 0 0, .val (.int .i64 a), .val (.int .i64 i), [.row (.cells [.val (.bool rb), .val (.string rn), .val (.string rd)]) 23 .live]=>bif T.length==72 then some (κ s a i rb rn rd, .exit 0,sh_ls s ((φ s a i rb rn rd).1) ((φ s a i rb rn rd).2) rb rn rd,hp_ls s ((φ s a i rb rn rd).1) ((φ s a i rb rn rd).2) rb rn rd) else none
 | _,_,_,_,_=>none
abbrev KT_ls:Type:=ByteArray→Int→Int→Bool→ByteArray→ByteArray→Bool
abbrev FT_ls:Type:=ByteArray→Int→Int→Bool→ByteArray→ByteArray→Int×Int
def LL_ls (κ:KT_ls) (φ:FT_ls) (L:LTab):LTab:=addLn 0 7 p_ls [0,2,4,5] (told_ls κ φ) L
def phi_ls (s:ByteArray) (a:Int) (i:Int) (rb:Bool) (rn:ByteArray) (rd:ByteArray):Int×Int:=Classical.epsilon fun ρ=>LoopTo Tryz.prog (lb 7 p_ls) (sh_ls s a i rb rn rd) (hp_ls s a i rb rn rd) (.exit 0) (sh_ls s (ρ.1) (ρ.2) rb rn rd) (hp_ls s (ρ.1) (ρ.2) rb rn rd)∧post_ls s a i rb rn rd ρ
theorem phi_ls_spec (s:ByteArray) (a:Int) (i:Int) (rb:Bool) (rn:ByteArray) (rd:ByteArray) (h:pre_ls s a i rb rn rd):LoopTo Tryz.prog (lb 7 p_ls) (sh_ls s a i rb rn rd) (hp_ls s a i rb rn rd) (.exit 0) (sh_ls s ((phi_ls s a i rb rn rd).1) ((phi_ls s a i rb rn rd).2) rb rn rd) (hp_ls s ((phi_ls s a i rb rn rd).1) ((phi_ls s a i rb rn rd).2) rb rn rd)∧post_ls s a i rb rn rd (phi_ls s a i rb rn rd):=Classical.epsilon_spec (loop_ls s a i rb rn rd h)
def cond_ls (s:ByteArray) (a:Int) (i:Int) (rb:Bool) (rn:ByteArray) (rd:ByteArray):Bool:= @decide (pre_ls s a i rb rn rd) (Classical.propDecidable _)
theorem cond_ls_eq (s:ByteArray) (a:Int) (i:Int) (rb:Bool) (rn:ByteArray) (rd:ByteArray) (h:pre_ls s a i rb rn rd):cond_ls s a i rb rn rd=true:= @decide_eq_true _ (Classical.propDecidable _) h
theorem told_ls_ok (T:List AV) (H:Hp) (e:Ex) (T1:List AV) (H1:Hp) (h:told_ls cond_ls phi_ls T H=some (true,e,T1,H1)):V.Ends Tryz.prog false 0 0 (.loop (lb 7 p_ls)) T H e T1 H1:=by
 unfold told_ls at h
 split at h
 ·rename_i s a i rb rn rd h0 h2 h4 h5
  rw [Bool.cond_eq_ite] at h
  split at h
  ·rename_i hlen
   rw [beq_iff_eq] at hlen
   simp only [Option.some.injEq,Prod.mk.injEq,Bool.and_eq_true,decide_eq_true_eq] at h
   obtain ⟨k1,rfl,rfl,rfl⟩:=h
   have kc:= @of_decide_eq_true _ (Classical.propDecidable _) k1
   refine Ends.pre (phi_ls_spec s a i rb rn rd kc).1.ends (fun α B w D ys hr=>slots_rel hlen (fun p hp y hy=> ?_) hr)
   simp only [List.mem_cons,List.not_mem_nil,or_false] at hp
   rcases hp with rfl | rfl | rfl | rfl
   ·rw [h0] at hy;exact hy
   ·rw [h2] at hy;exact hy
   ·rw [h4] at hy;exact hy
   ·rw [h5] at hy;exact hy
  ·cases h
 ·cases h
theorem LL_ls_ok {L:LTab} (h:LOk Tryz.prog L):LOk Tryz.prog (LL_ls cond_ls phi_ls L):=h.add2n body_ls told_ls_ok
def CrP (S:Sg) (Z:Qg) (tx:Int→ByteArray):FuncId→TF:=addC 24 (tR1 Z fun b n d=> .tup [S.int (Z.nu (Z.qv b n d)),S.int (Z.de (Z.qv b n d))]) (addC 25 (tPrt S tx) noC)
theorem rqprint_tree (S:Sg) (Z:Qg) (tx:Int→ByteArray) (b:Bool) (n d:ByteArray):callA Tryz.prog ⟨CrP S Z tx,fun _=>false,noL⟩ 10 10 9 [.agg [.val (.bool b), .val (.string n), .val (.string d)]]=
  (bif Z.oks n d then (bif strEq (S.ms (Z.de (Z.qv b n d))) (ByteArray.mk #[(1:UInt8)]) then (bif okt (S.ms (Z.nu (Z.qv b n d))) then some (.val (.string (tx (S.val (S.ng (Z.nu (Z.qv b n d))) (S.ms (Z.nu (Z.qv b n d))))))) else none) else (bif okt (S.ms (Z.nu (Z.qv b n d))) then (bif decide ((tx (S.val (S.ng (Z.nu (Z.qv b n d))) (S.ms (Z.nu (Z.qv b n d))))).size+(1:Nat)≤(9223372036854775807:Nat)) then (bif okt (S.ms (Z.de (Z.qv b n d))) then (bif decide ((strCat (tx (S.val (S.ng (Z.nu (Z.qv b n d))) (S.ms (Z.nu (Z.qv b n d))))) (ByteArray.mk #[(47:UInt8)])).size+(tx (S.val (S.ng (Z.de (Z.qv b n d))) (S.ms (Z.de (Z.qv b n d))))).size≤(9223372036854775807:Nat)) then some (.val (.string (strCat (strCat (tx (S.val (S.ng (Z.nu (Z.qv b n d))) (S.ms (Z.nu (Z.qv b n d))))) (ByteArray.mk #[(47:UInt8)])) (tx (S.val (S.ng (Z.de (Z.qv b n d))) (S.ms (Z.de (Z.qv b n d)))))))) else none) else none) else none) else none)) else none):=by kernel_rfl
def CrA (S:Sg) (X:Xg) (Z:Qg) (qx:Rat→ByteArray) (pv pk:ByteArray→Int):FuncId→TF:=addC 18 (tPrs S pv pk) (addC 20 (tRNew S X Z) (addC 9 (tQPrt Z qx) (addC 19 (tOf S) noC)))
theorem rqparse_tree (S:Sg) (X:Xg) (Z:Qg) (qx:Rat→ByteArray) (pv pk:ByteArray→Int) (κ:KT_ls) (φ:FT_ls) (s:ByteArray):letI q_1:=(φ s (↑s.size:Int) (0:Int) false (ByteArray.mk #[]) (ByteArray.mk #[]));letI q_4:=(strSub s (0:Nat) q_1.fst.toNat);letI q_5:=(strSub s (q_1.fst+(1:Int)).toNat s.size);letI q_2:=(Z.fr (S.val (S.ng (pv q_4)) (S.ms (pv q_4))) (S.val (S.ng (pv q_5)) (S.ms (pv q_5))));letI q_3:=(Z.fr (S.val (S.ng (pv q_4)) (S.ms (pv q_4))) (S.val (S.ng (1:Int)) (S.ms (1:Int))));
  (callA Tryz.prog ⟨CrA S X Z qx pv pk,fun _=>false,LL_ls κ φ noL⟩ 10 10 7 [.val (.string s)]=(bif decide ((65536:Int) < (↑s.size:Int)) then some (.tup [(.agg [(.val (.bool false)),(.val (.string (ByteArray.mk #[]))),(.val (.string (ByteArray.mk #[])))]),(.val (.int .i64 4))]) else (bif κ s (↑s.size:Int) (0:Int) false (ByteArray.mk #[]) (ByteArray.mk #[]) then (bif decide ((0:Int)≤q_1.fst)&&decide (q_1.fst≤(↑s.size:Int)) then (bif decide (q_1.fst < (↑s.size:Int)) then (bif inR IntKind.i64 (q_1.fst+(1:Int)) then (bif decide ((0:Int)≤q_1.fst+(1:Int))&&decide (q_1.fst+(1:Int)≤(↑s.size:Int)) then (bif !decide (pk q_4=(0:Int)) then some (.tup [(.agg [(.val (.bool false)),(.val (.string (ByteArray.mk #[]))),(.val (.string (ByteArray.mk #[])))]),(.val (.int .i64 3))]) else (bif !decide (pk q_5=(0:Int)) then some (.tup [(.agg [(.val (.bool false)),(.val (.string (ByteArray.mk #[]))),(.val (.string (ByteArray.mk #[])))]),(.val (.int .i64 3))]) else (bif X.ok2 (S.ms (pv q_4))&&X.ok2 (S.ms (pv q_5)) then (bif !decide (X.de (S.val (S.ng (pv q_5)) (S.ms (pv q_5)))=(0:Int)) then some (.tup [(.agg [(.val (.bool false)),(.val (.string (ByteArray.mk #[]))),(.val (.string (ByteArray.mk #[])))]),(.val (.int .i64 3))]) else (bif decide ((Z.qs q_2).size≤(100000:Nat))&&decide ((Z.qd q_2).size≤(100000:Nat)) then (bif !strEq (qx (Z.qv (Z.qn q_2) (Z.qs q_2) (Z.qd q_2))) s then some (.tup [(.agg [(.val (.bool false)),(.val (.string (ByteArray.mk #[]))),(.val (.string (ByteArray.mk #[])))]),(.val (.int .i64 3))]) else some (.tup [(.agg [(.val (.bool (Z.qn q_2))),(.val (.string (Z.qs q_2))),(.val (.string (Z.qd q_2)))]),(.val (.int .i64 0))])) else none)) else none))) else none) else none) else (bif !decide (pk q_4=(0:Int)) then some (.tup [(.agg [(.val (.bool false)),(.val (.string (ByteArray.mk #[]))),(.val (.string (ByteArray.mk #[])))]),(.val (.int .i64 3))]) else (bif X.ok2 (S.ms (pv q_4))&&X.ok2 (S.ms (1:Int)) then (bif !decide (X.de (S.val (S.ng (1:Int)) (S.ms (1:Int)))=(0:Int)) then some (.tup [(.agg [(.val (.bool false)),(.val (.string (ByteArray.mk #[]))),(.val (.string (ByteArray.mk #[])))]),(.val (.int .i64 3))]) else (bif decide ((Z.qs q_3).size≤(100000:Nat))&&decide ((Z.qd q_3).size≤(100000:Nat)) then (bif !strEq (qx (Z.qv (Z.qn q_3) (Z.qs q_3) (Z.qd q_3))) s then some (.tup [(.agg [(.val (.bool false)),(.val (.string (ByteArray.mk #[]))),(.val (.string (ByteArray.mk #[])))]),(.val (.int .i64 3))]) else some (.tup [(.agg [(.val (.bool (Z.qn q_3))),(.val (.string (Z.qs q_3))),(.val (.string (Z.qd q_3)))]),(.val (.int .i64 0))])) else none)) else none))) else none) else none))):=by kernel_rfl
end
end Go.Proofs.YtibaendebbicjaaGreat.L
namespace Go.Proofs.YtibaendebbicjaaGreat.L
open Go Go.V Go.RowKit Go.Proofs.YtibaendebbicjaaGreat.Sp Go.Proofs.YtibaendebbicjaaGreat.F
open Go.Proofs (Tryz.prog)
noncomputable section
theorem CrP_ok:Meets Tryz.prog (CrP sg0 sq0 txt):=((meets_none _).add eRPrint).add eRQParts
theorem eRQPrint:Entry Tryz.prog 9 (tQPrt sq0 qxt):=by
 refine entry_of (E:= ⟨CrP sg0 sq0 txt,fun _=>false,noL⟩) (u:=10) (d:=10) CrP_ok loops_none mixed (by kernel_rfl) (fun args r h=> ?_)
 unfold tQPrt at h
 split at h
 ·rename_i b n d
  simp only [Option.some.injEq,Prod.mk.injEq,Bool.and_eq_true,decide_eq_true_eq] at h
  obtain ⟨⟨h1,h2⟩,rfl⟩:=h
  have hz:=szq_val b n d
  have hcall:=rqprint_tree sg0 sq0 txt b n d
  have hnu:∀ q,sq0.nu q=q.num:=fun q=>rfl
  have hde:∀ q,sq0.de q=(q.den:Int):=fun q=>rfl
  simp only [hnu,hde,val_ms,ms_is1] at hcall
  rw [hcall,qoks_in (by omega) (by omega)]
  generalize sq0.qv b n d=q at*
  have b1:bs q.num.natAbs≤szq q:=Nat.le_max_left _ _
  have b2:bs q.den≤szq q:=Nat.le_max_right _ _
  have b3:bs ((q.den:Int)).natAbs≤szq q:=b2
  have s1:=txt_size q.num
  have s2:=txt_size (q.den:Int)
  have s3:=dl_bs q.num.natAbs
  have s4:=dl_bs ((q.den:Int)).natAbs
  rw [okt_ms (z:=q.num) (by omega),okt_ms (z:=(q.den:Int)) (by omega),size_cat,dT (show (txt q.num).size+1≤9223372036854775807 by omega),dT (show (txt q.num).size+(ByteArray.mk #[(47:UInt8)]).size+(txt (q.den:Int)).size≤9223372036854775807 by show (txt q.num).size+1+_≤_;omega)]
  unfold qxt
  by_cases hd:q.den=1
  ·rw [dT hd,if_pos hd];rfl
  ·rw [dF hd,if_neg hd];rfl
 ·cases h
def rtail (S:Sg) (X:Xg) (Z:Qg) (qx:Rat→ByteArray) (s:ByteArray) (u v:Int):Option AV:=
 letI q:=Z.fr (S.val (S.ng u) (S.ms u)) (S.val (S.ng v) (S.ms v))
 bif X.ok2 (S.ms u)&&X.ok2 (S.ms v) then (bif !decide (X.de (S.val (S.ng v) (S.ms v))=(0:Int)) then qE3 else (bif decide ((Z.qs q).size≤(100000:Nat))&&decide ((Z.qd q).size≤(100000:Nat)) then (bif !strEq (qx (Z.qv (Z.qn q) (Z.qs q) (Z.qd q))) s then qE3 else some (.tup [(.agg [(.val (.bool (Z.qn q))),(.val (.string (Z.qs q))),(.val (.string (Z.qd q)))]),(.val (.int .i64 0))])) else none)) else none
theorem rqparse_tree2 (S:Sg) (X:Xg) (Z:Qg) (qx:Rat→ByteArray) (pv pk:ByteArray→Int) (κ:KT_ls) (φ:FT_ls) (s:ByteArray):letI a:=(φ s (s.size:Int) (0:Int) false (ByteArray.mk #[]) (ByteArray.mk #[])).1;letI u:=strSub s 0 a.toNat;letI v:=strSub s (a+1).toNat s.size;
  callA Tryz.prog ⟨CrA S X Z qx pv pk,fun _=>false,LL_ls κ φ noL⟩ 10 10 7 [.val (.string s)]=(bif decide ((65536:Int) < (s.size:Int)) then some (.tup [(.agg [(.val (.bool false)),(.val (.string (ByteArray.mk #[]))),(.val (.string (ByteArray.mk #[])))]),(.val (.int .i64 4))]) else (bif κ s (s.size:Int) (0:Int) false (ByteArray.mk #[]) (ByteArray.mk #[]) then (bif decide ((0:Int)≤a)&&decide (a≤(s.size:Int)) then (bif decide (a < (s.size:Int)) then (bif inR .i64 (a+(1:Int)) then (bif decide ((0:Int)≤a+(1:Int))&&decide (a+(1:Int)≤(s.size:Int)) then (bif !decide (pk u=(0:Int)) then qE3 else (bif !decide (pk v=(0:Int)) then qE3 else rtail S X Z qx s (pv u) (pv v))) else none) else none) else (bif !decide (pk u=(0:Int)) then qE3 else rtail S X Z qx s (pv u) 1)) else none) else none)):=rqparse_tree S X Z qx pv pk κ φ s
theorem CrA_ok:Meets Tryz.prog (CrA sg0 xg0 sq0 qxt pvT pkT):=((((meets_none _).add eROf).add eRQPrint).add eRQNew).add eRParse
theorem rtail_eq (s:ByteArray) (u v:Int) (hu:bs u.natAbs≤20000) (hv:bs v.natAbs≤20000):rtail sg0 xg0 sq0 qxt s u v= @ite _ (v≠0∧qxt (Rat.divInt u v)=s) (Classical.propDecidable _) (some (.tup [sq0.rat (Rat.divInt u v), .val (.int .i64 0)])) qE3:=by
 have hfr:∀ x y,sq0.fr x y=Rat.divInt x y:=fun x y=>rfl
 have hde:∀ y,xg0.de y=if y=0 then 10 else 0:=fun y=>rfl
 unfold rtail
 simp only [val_ms,hfr,hde,qv_rat]
 rw [ok2_ms (z:=u) (by omega),ok2_ms (z:=v) (by omega)]
 by_cases h3:v=0
 ·rw [if_pos h3,if_neg (show ¬ (v≠0∧qxt (Rat.divInt u v)=s) from fun h=>h.1 h3)];rfl
 ·have z1:=szq_fr u h3
  have z2:=size_qs (Rat.divInt u v)
  have z3:=size_qd (Rat.divInt u v)
  have z4:bs (Rat.divInt u v).num.natAbs≤szq (Rat.divInt u v):=Nat.le_max_left _ _
  have z5:bs (Rat.divInt u v).den≤szq (Rat.divInt u v):=Nat.le_max_right _ _
  rw [if_neg h3,dT (show (sq0.qs (Rat.divInt u v)).size≤100000 by omega),dT (show (sq0.qd (Rat.divInt u v)).size≤100000 by omega),strEq_iff]
  by_cases h4:qxt (Rat.divInt u v)=s
  ·rw [dT h4,if_pos ⟨h3,h4⟩];rfl
  ·rw [dF h4,if_neg (show ¬ (v≠0∧qxt (Rat.divInt u v)=s) from fun h=>h4 h.2)];rfl
theorem ls_spec (s:ByteArray) (hs:s.size≤20000):cond_ls s (s.size:Int) 0 false (ByteArray.mk #[]) (ByteArray.mk #[])=true∧∃ a:Nat,(phi_ls s (s.size:Int) 0 false (ByteArray.mk #[]) (ByteArray.mk #[])).1=a∧a≤s.size∧lastS s s.size a:=by
 have hq:pre_ls s (s.size:Int) 0 false (ByteArray.mk #[]) (ByteArray.mk #[]):= ⟨rfl,rfl,by omega⟩
 exact ⟨cond_ls_eq _ _ _ _ _ _ hq,(phi_ls_spec _ _ _ _ _ _ hq).2⟩
theorem bs_one':bs (1:Int).natAbs≤1:=bs_le (by decide)
theorem byteAt_mem {s:ByteArray} {j:Nat} (h:byteAt s j=47):(47:UInt8) ∈ s.data.toList:=by
 unfold byteAt at h
 have h1:s.data.toList.getD j 0=47:=by
  apply UInt8.toNat_inj.1
  show (s.data.toList.getD j 0).toNat=47
  omega
 rw [List.getD_eq_getElem?_getD] at h1
 cases h2:s.data.toList[j]? with
 | none=>rw [h2] at h1;exact absurd h1 (by decide)
 | some c=>rw [h2,Option.getD_some] at h1;rw [← h1];exact List.mem_of_getElem? h2
theorem rqparse_good (q:Rat) (hs:(qxt q).size≤20000):callA Tryz.prog ⟨CrA sg0 xg0 sq0 qxt pvT pkT,fun _=>false,LL_ls cond_ls phi_ls noL⟩ 10 10 7 [.val (.string (qxt q))]=some (.tup [sq0.rat q, .val (.int .i64 0)]):=by
 have htree:=rqparse_tree2 sg0 xg0 sq0 qxt pvT pkT cond_ls phi_ls (qxt q)
 obtain ⟨c1,a,c2,c3,c4⟩:=ls_spec (qxt q) hs
 rw [c2] at htree
 rw [htree,c1,dF (show ¬ (65536:Int) < ((qxt q).size:Int) by omega),dT (show (0:Int)≤(a:Int) by omega),dT (show (a:Int)≤((qxt q).size:Int) by omega),Int.toNat_natCast]
 clear htree c2
 have full:∀ s:ByteArray,strSub s 0 s.size=s:=fun s=>by
  apply bytes_ext
  show (s.data.toList.drop 0).take (s.size - 0)=_
  rw [List.drop_zero,Nat.sub_zero]
  exact List.take_of_length_le (by rw [Array.length_toList];exact Nat.le_refl _)
 by_cases hd:q.den=1
 ·have e:qxt q=txt q.num:=by unfold qxt;rw [if_pos hd]
  rw [e] at hs c3 c4 ⊢
  have ha:a=(txt q.num).size:=by
   rcases c4 with h | h
   ·exact h.1
   ·exact absurd (byteAt_mem h.2.1) (no_slash _)
  have h1:=txt_size2 q.num
  obtain ⟨_,r2,r3,_⟩:=read_txt (z:=q.num) (by omega)
  have hq:Rat.divInt q.num 1=q:=by
   have:=Rat.num_divInt_den q
   rw [hd] at this
   exact this
  have hb:=bs_dec (dl_lt q.num.natAbs)
  rw [ha,dF (show ¬ (((txt q.num).size:Nat):Int) < ((txt q.num).size:Int) by omega),full,r3,r2]
  show rtail sg0 xg0 sq0 qxt (txt q.num) q.num 1=_
  rw [rtail_eq _ _ _ (by omega) (by have:=bs_one';omega),hq,if_pos ⟨by decide,e⟩]
 ·have e:qxt q=strCat (strCat (txt q.num) (ByteArray.mk #[47])) (txt (q.den:Int)):=by unfold qxt;rw [if_neg hd]
  have hl:=cat_slash (txt q.num) (txt (q.den:Int))
  rw [← e] at hl
  have hsz:(qxt q).size=(txt q.num).size+1+(txt (q.den:Int)).size:=by rw [e,size_cat,size_cat];rfl
  have h1:=txt_size2 q.num
  have h2:=txt_size2 (q.den:Int)
  obtain ⟨_,r2,r3,_⟩:=read_txt (z:=q.num) (by omega)
  obtain ⟨_,t2,t3,_⟩:=read_txt (z:=(q.den:Int)) (by omega)
  have hln:(txt q.num).data.toList.length=(txt q.num).size:=by rw [Array.length_toList];rfl
  have hld:(txt (q.den:Int)).data.toList.length=(txt (q.den:Int)).size:=by rw [Array.length_toList];rfl
  have at_:∀ j,byteAt (qxt q) j=((((txt q.num).data.toList ++ (47:UInt8) :: (txt (q.den:Int)).data.toList).getD j 0).toNat:Int):=fun j=>by unfold byteAt;rw [hl]
  have mid:byteAt (qxt q) (txt q.num).size=47:=by
   rw [at_,← hln,List.getD_eq_getElem?_getD,List.getElem?_append_right (Nat.le_refl _),Nat.sub_self];rfl
  have left:∀ j,j < (txt q.num).size→byteAt (qxt q) j≠47:=fun j hj h=>by
   have h3:byteAt (txt q.num) j=47:=by
    rw [at_,List.getD_eq_getElem?_getD,List.getElem?_append_left (by rw [hln];exact hj),← List.getD_eq_getElem?_getD] at h
    exact h
   exact no_slash _ (byteAt_mem h3)
  have right:∀ j,(txt q.num).size < j→byteAt (qxt q) j≠47:=fun j hj h=>by
   have h3:byteAt (txt (q.den:Int)) (j - (txt q.num).size - 1)=47:=by
    rw [at_,List.getD_eq_getElem?_getD,List.getElem?_append_right (by rw [hln];omega),hln,show j - (txt q.num).size=(j - (txt q.num).size - 1)+1 by omega,List.getElem?_cons_succ,← List.getD_eq_getElem?_getD] at h
    exact h
   exact no_slash _ (byteAt_mem h3)
  have ha:a=(txt q.num).size:=by
   rcases c4 with ⟨_,h⟩ | ⟨h3,h4,h5⟩
   ·exact absurd mid (h _ (by omega))
   ·rcases Nat.lt_trichotomy a (txt q.num).size with h | h | h
    ·exact absurd h4 (left a h)
    ·exact h
    ·exact absurd h4 (right a h)
  have u1:strSub (qxt q) 0 (txt q.num).size=txt q.num:=by
   apply bytes_ext
   show ((qxt q).data.toList.drop 0).take ((txt q.num).size - 0)=_
   rw [List.drop_zero,Nat.sub_zero,hl]
   exact List.take_left' hln
  have v1:strSub (qxt q) ((txt q.num).size+1) (qxt q).size=txt (q.den:Int):=by
   apply bytes_ext
   show ((qxt q).data.toList.drop ((txt q.num).size+1)).take ((qxt q).size - ((txt q.num).size+1))=_
   have:(qxt q).data.toList=((txt q.num).data.toList ++ [47]) ++ (txt (q.den:Int)).data.toList:=by rw [hl,List.append_assoc];rfl
   rw [this,List.drop_left' (by rw [List.length_append,hln];rfl)]
   exact List.take_of_length_le (by rw [hld,hsz];omega)
  have hdp:=q.den_pos
  have et:((((txt q.num).size:Nat):Int)+1).toNat=(txt q.num).size+1:=by omega
  have b1:=bs_dec (dl_lt q.num.natAbs)
  have b2:=bs_dec (dl_lt ((q.den:Int)).natAbs)
  rw [ha,et,u1,v1,dT (show (((txt q.num).size:Nat):Int) < ((qxt q).size:Int) by omega),i64T (z:=(((txt q.num).size:Nat):Int)+1) (by omega),dT (show (0:Int)≤(((txt q.num).size:Nat):Int)+1 by omega),dT (show (((txt q.num).size:Nat):Int)+1≤((qxt q).size:Int) by omega),r3,t3,r2,t2]
  show rtail sg0 xg0 sq0 qxt (qxt q) q.num (q.den:Int)=_
  rw [rtail_eq _ _ _ (by omega) (by omega),Rat.num_divInt_den,if_pos ⟨by omega,rfl⟩]
theorem rqparse_bad (s:ByteArray) (hs:s.size≤20000) (hn:¬ ∃ q,qxt q=s):callA Tryz.prog ⟨CrA sg0 xg0 sq0 qxt pvT pkT,fun _=>false,LL_ls cond_ls phi_ls noL⟩ 10 10 7 [.val (.string s)]=qE3:=by
 have htree:=rqparse_tree2 sg0 xg0 sq0 qxt pvT pkT cond_ls phi_ls s
 obtain ⟨c1,a,c2,c3,c4⟩:=ls_spec s hs
 have sub_le:∀ a b,(strSub s a b).size≤s.size:=fun a b=>by
  show (((s.data.toList.drop a).take (b - a)).toArray).size≤_
  rw [List.size_toArray,List.length_take,List.length_drop,Array.length_toList]
  show min _ (s.size - a)≤_
  omega
 have t3:∀ u v:Int,bs u.natAbs≤20000→bs v.natAbs≤20000→rtail sg0 xg0 sq0 qxt s u v=qE3:=fun u v hu hv=>by
  rw [rtail_eq _ _ _ hu hv,if_neg (fun h=>hn ⟨_,h.2⟩)]
 have pvb:∀ a b,bs (pvT (strSub s a b)).natAbs≤20000:=fun a b=>Nat.le_trans (bs_pv _) (Nat.le_trans (sub_le a b) hs)
 rw [c2,t3 _ _ (pvb _ _) (pvb _ _),t3 _ _ (pvb _ _) (by have:=bs_one';omega)] at htree
 rw [htree,c1,dF (show ¬ (65536:Int) < (s.size:Int) by omega),dT (show (0:Int)≤(a:Int) by omega),dT (show (a:Int)≤(s.size:Int) by omega)]
 by_cases h:(a:Int) < (s.size:Int)
 ·rw [dT h,i64T (z:=(a:Int)+1) (by omega),dT (show (0:Int)≤(a:Int)+1 by omega),dT (show (a:Int)+1≤(s.size:Int) by omega)]
  cases decide (pkT (strSub s 0 (a:Int).toNat)=0) <;> cases decide (pkT (strSub s ((a:Int)+1).toNat s.size)=0) <;> rfl
 ·rw [dF h]
  cases decide (pkT (strSub s 0 (a:Int).toNat)=0) <;> rfl
theorem eRQParse:Entry Tryz.prog 7 (tQPrs sq0 pqT kqT):=by
 refine entry_of (E:= ⟨CrA sg0 xg0 sq0 qxt pvT pkT,fun _=>false,LL_ls cond_ls phi_ls noL⟩) (u:=10) (d:=10) CrA_ok (LL_ls_ok LOk.none).ok mixed (by kernel_rfl) (fun args r h=> ?_)
 unfold tQPrs at h
 split at h
 ·rename_i s
  simp only [Option.some.injEq,Prod.mk.injEq,decide_eq_true_eq] at h
  obtain ⟨h1,rfl⟩:=h
  by_cases hq:∃ q,qxt q=s
  ·obtain ⟨q,rfl⟩:=hq
   rw [(pq_qxt h1).1,(pq_qxt h1).2]
   exact rqparse_good q h1
  ·rw [(pq_bad hq).1,(pq_bad hq).2,rqparse_bad s h1 hq,rat_zero];rfl
 ·cases h
def CTq (Z:Qg) (qx:Rat→ByteArray) (pq:ByteArray→Rat) (kq:ByteArray→Int):FuncId→TF:=addC 8 (tQPrt Z qx) (addC 9 (tQPrt Z qx) (addC 6 (tQPrs Z pq kq) (addC 7 (tQPrs Z pq kq) (addC 5 tAwakeQ noC))))
theorem qtexts_tree (Z:Qg) (qx:Rat→ByteArray) (pq:ByteArray→Rat) (kq:ByteArray→Int) (b:Bool) (n d s:ByteArray):callA Tryz.prog ⟨CTq Z qx pq kq,fun _=>false,noL⟩ 10 10 3 [.agg [.val (.bool b), .val (.string n), .val (.string d)], .val (.string s)]=
  (bif decide ((60:Int) < (↑n.size:Int)) then some (.val (.bool true)) else (bif decide ((60:Int) < (↑d.size:Int)) then some (.val (.bool true)) else (bif decide ((200:Int) < (↑s.size:Int)) then some (.val (.bool true)) else (bif decide (s.size≤(20000:Nat)) then (bif decide (s.size≤(20000:Nat)) then (bif decide (n.size≤(100000:Nat))&&decide (d.size≤(100000:Nat)) then (bif decide (n.size≤(100000:Nat))&&decide (d.size≤(100000:Nat)) then (bif strEq (qx (Z.qv b n d)) (qx (Z.qv b n d)) then (bif bif false then !(Z.qn (pq s)==Z.qn (pq s)&&(strEq (Z.qs (pq s)) (Z.qs (pq s))&&(strEq (Z.qd (pq s)) (Z.qd (pq s))&&true))) else Z.qn (pq s)==Z.qn (pq s)&&(strEq (Z.qs (pq s)) (Z.qs (pq s))&&(strEq (Z.qd (pq s)) (Z.qd (pq s))&&true)) then (bif decide (kq s=kq s) then some (.val (.bool true)) else some (.val (.bool false))) else some (.val (.bool false))) else some (.val (.bool false))) else none) else none) else none) else none)))):=by kernel_rfl
theorem CTq_ok:Meets Tryz.prog (CTq sq0 qxt pqT kqT):=(((((meets_none _).add eAwakeQ).add eRQParse).add eQParse).add eRQPrint).add eQPrint
theorem qtexts_true (b:Bool) (n d s:ByteArray):callA Tryz.prog ⟨CTq sq0 qxt pqT kqT,fun _=>false,noL⟩ 10 10 3 [.agg [.val (.bool b), .val (.string n), .val (.string d)], .val (.string s)]=some (.val (.bool true)):=by
 rw [qtexts_tree]
 by_cases h1:(60:Int) < n.size
 ·rw [dT h1];rfl
 by_cases h2:(60:Int) < d.size
 ·rw [dF h1,dT h2];rfl
 by_cases h3:(200:Int) < s.size
 ·rw [dF h1,dF h2,dT h3];rfl
 rw [dF h1,dF h2,dF h3,dT (show n.size≤100000 by omega),dT (show d.size≤100000 by omega),dT (show s.size≤20000 by omega),strEq_self,eqQ (rfl:pqT s=pqT s),dT (rfl:kqT s=kqT s)]
 rfl
theorem qtexts_walk (b:Bool) (n d s:ByteArray) {q:Prop} (hq:q) (W:World):Calls Tryz.prog 3 #[.agg #[.bool b, .string n, .string d], .string s] W fun e w'=>e= .returned (.bool true)∧Below W.heap.size W w':=
 law_walk CTq_ok loops_none (by kernel_rfl) (qtexts_true b n d s) W ⟨_,_,rfl,arg_rat _ _ b n d,_,_,rfl,rfl,rfl⟩
end
end Go.Proofs.YtibaendebbicjaaGreat.L
