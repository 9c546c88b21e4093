import Derived.Test.YtamcpiicmfielaaGreatZHW
import Derived.Test.YtamcpiicmfielaaGreatZHZ
import Derived.Deep.Slices
import Derived.Carry
import Derived.ChangeOld
import Derived.Lib.SmallJoins
set_option linter.unusedVariables false
set_option linter.unusedSimpArgs false
namespace Go.Proofs.YtamcpiicmfielaaGreat.L
open Go Go.V Go.RowKit Go.Proofs.YtamcpiicmfielaaGreat.Sp
open Go.Proofs (Tryz.prog)
noncomputable section
def CJn (C:Cg) (Z:Qg):FuncId→TF:=addC 18 (tChk C) (addC 23 (gRR (tQCompare Z)) noC)
theorem join_call (C:Cg) (Z:Qg) (p:Nat) (ts ps:List Value) (r:Nat) (us qs:List Value):letI q_1:=(r+(1:Nat) - (1:Nat));letI q_2:=(↑(p+(1:Nat)):Int);letI q_3:=(rowV (6:Nat) (p+(1:Nat)) (vrow (6:Nat) ps));letI q_4:=(rowV (3:Nat) (p+(1:Nat)) (vrow (3:Nat) ts));letI q_5:=((0:Nat)+(p+(1:Nat)));letI q_6:=(Cont.vals (List.take ((p+(1:Nat))*(6:Nat)) q_3 ++ rowV (6:Nat) q_1 fun j q=>vrow (6:Nat) qs (j+Int.toNat (1:Int)) q));letI q_7:=(Cont.vals (List.take ((p+(1:Nat))*(3:Nat)) q_4 ++ rowV (3:Nat) q_1 fun j q=>vrow (3:Nat) us (j+Int.toNat (1:Int)) q));letI q_8:=(Cont.vals (List.take (q_5*(3:Nat)) q_4 ++ rowV (3:Nat) q_1 fun j q=>vrow (3:Nat) us (j+Int.toNat (1:Int)) q));letI q_9:=(Cont.vals (List.take (q_5*(6:Nat)) q_3 ++ rowV (6:Nat) q_1 fun j q=>vrow (6:Nat) qs (j+Int.toNat (1:Int)) q));letI q_10:=((0:Nat)+(p+(1:Nat))+q_1);letI q_11:=(Cont.vals (rowV (6:Nat) q_1 fun j q=>vrow (6:Nat) qs (j+Int.toNat (1:Int)) q));letI q_12:=(strEq (asS (ps.getD ((q_2 - (1:Int)).toNat*(6:Nat)+(1:Nat)) undef)) (asS (qs.getD (1:Nat) undef))&&(strEq (asS (ps.getD ((q_2 - (1:Int)).toNat*(6:Nat)+(2:Nat)) undef)) (asS (qs.getD (2:Nat) undef))&&true));letI q_13:=(strEq (asS (ps.getD ((q_2 - (1:Int)).toNat*(6:Nat)+(4:Nat)) undef)) (asS (qs.getD (4:Nat) undef))&&(strEq (asS (ps.getD ((q_2 - (1:Int)).toNat*(6:Nat)+(5:Nat)) undef)) (asS (qs.getD (5:Nat) undef))&&true));letI q_20:=(ts.getD ((q_2 - (1:Int)).toNat*(3:Nat)+(1:Nat)) undef);letI q_21:=(ts.getD ((q_2 - (1:Int)).toNat*(3:Nat)+(2:Nat)) undef);letI q_14:=(Z.qv (asB (ts.getD ((q_2 - (1:Int)).toNat*(3:Nat)+(0:Nat)) undef)) (asS q_20) (asS q_21));letI q_15:=((0:Nat)+(p+(1:Nat))+(r+(1:Nat)));letI q_16:=((0:Int)+q_2+(↑q_1:Int) - (0:Int));letI q_17:=((0:Int)+q_2+(↑(r+(1:Nat)):Int) - (0:Int));letI q_18:=(ps.getD ((q_2 - (1:Int)).toNat*(6:Nat)+(0:Nat)) undef);letI q_19:=(ps.getD ((q_2 - (1:Int)).toNat*(6:Nat)+(3:Nat)) undef);letI q_22:=(Z.qv (asB (us.getD (0:Nat) undef)) (asS (us.getD (1:Nat) undef)) (asS (us.getD (2:Nat) undef)));letI q_23:=(rowV (3:Nat) (r+(1:Nat)) (vrow (3:Nat) us));letI q_24:=(rowV (6:Nat) (r+(1:Nat)) (vrow (6:Nat) qs));letI q_25:=(Cont.vals (List.take (q_5*(3:Nat)) q_4 ++ rowV (3:Nat) (r+(1:Nat)) (vrow (3:Nat) us)));letI q_26:=(Cont.vals (List.take (q_5*(6:Nat)) q_3 ++ rowV (6:Nat) (r+(1:Nat)) (vrow (6:Nat) qs)));letI q_27:=(Cont.vals (rowV (3:Nat) q_1 fun j q=>vrow (3:Nat) us (j+Int.toNat (1:Int)) q));
  (callA Tryz.prog ⟨CJn C Z,Kall,noL⟩ 10 10 22 [aTrj (p+1) ts (p+1) ps,aTrj (r+1) us (r+1) qs]=(bif okV (3:Nat) (p+(1:Nat)) (vrow (3:Nat) ts)&&okV (6:Nat) (p+(1:Nat)) (vrow (6:Nat) ps)&&C.ko (p+(1:Nat)) q_4 (p+(1:Nat)) q_3 then (bif !decide (C.ck (p+(1:Nat)) q_4 (p+(1:Nat)) q_3=(0:Int)) then some (.tup [(.agg [(.val (.slice .none 0 0)),(.val (.slice .none 0 0))]),(.val (.int .i64 1))]) else (bif okV (3:Nat) (r+(1:Nat)) (vrow (3:Nat) us)&&okV (6:Nat) (r+(1:Nat)) (vrow (6:Nat) qs)&&C.ko (r+(1:Nat)) q_23 (r+(1:Nat)) q_24 then (bif !decide (C.ck (r+(1:Nat)) q_23 (r+(1:Nat)) q_24=(0:Int)) then some (.tup [(.agg [(.val (.slice .none 0 0)),(.val (.slice .none 0 0))]),(.val (.int .i64 1))]) else (bif inR IntKind.i64 (q_2 - (1:Int)) then (bif decide ((0:Int)≤q_2 - (1:Int))&&decide (q_2 - (1:Int) < q_2) then (bif isB q_18&&isB (qs.getD (0:Nat) undef) then (bif isS (ps.getD ((q_2 - (1:Int)).toNat*(6:Nat)+(1:Nat)) undef)&&isS (qs.getD (1:Nat) undef) then (bif isS (ps.getD ((q_2 - (1:Int)).toNat*(6:Nat)+(2:Nat)) undef)&&isS (qs.getD (2:Nat) undef) then (bif isB q_19&&isB (qs.getD (3:Nat) undef) then (bif isS (ps.getD ((q_2 - (1:Int)).toNat*(6:Nat)+(4:Nat)) undef)&&isS (qs.getD (4:Nat) undef) then (bif isS (ps.getD ((q_2 - (1:Int)).toNat*(6:Nat)+(5:Nat)) undef)&&isS (qs.getD (5:Nat) undef) then (bif bif true then !(asB q_18==asB (qs.getD (0:Nat) undef)&&q_12&&(asB q_19==asB (qs.getD (3:Nat) undef)&&q_13&&true)) else asB q_18==asB (qs.getD (0:Nat) undef)&&q_12&&(asB q_19==asB (qs.getD (3:Nat) undef)&&q_13&&true) then some (.tup [(.agg [(.val (.slice .none 0 0)),(.val (.slice .none 0 0))]),(.val (.int .i64 9))]) else (bif decide ((0:Int)≤q_2 - (1:Int))&&decide (q_2 - (1:Int) < q_2) then (bif isRat (us.getD (0:Nat) undef) (us.getD (1:Nat) undef) (us.getD (2:Nat) undef)&&isRat (ts.getD ((q_2 - (1:Int)).toNat*(3:Nat)+(0:Nat)) undef) q_20 q_21&&(Z.ok (asS (us.getD (1:Nat) undef)) (asS (us.getD (2:Nat) undef))&&Z.ok (asS q_20) (asS q_21)) then (bif decide (Z.cq q_22 q_14 < (0:Int)) then some (.tup [(.agg [(.val (.slice .none 0 0)),(.val (.slice .none 0 0))]),(.val (.int .i64 8))]) else (bif decide (Z.cq q_22 q_14=(0:Int)) then (bif inR IntKind.i64 (q_2+(↑q_1:Int)) then (bif decide ((1000:Int) < q_2+(↑q_1:Int)) then some (.tup [(.agg [(.val (.slice .none 0 0)),(.val (.slice .none 0 0))]),(.val (.int .i64 4))]) else (bif inR IntKind.i64 ((0:Int)+q_2) then (bif inR IntKind.i64 ((0:Int)+q_2+(↑q_1:Int)) then (bif inR IntKind.i64 q_16 then (bif decide ((0:Int) < (0:Int)+q_2+(↑q_1:Int) - (0:Int)) then (bif decide ((0:Int) < (0:Int)+q_2+(↑q_1:Int) - (0:Int))&&roomA Tryz.prog q_16.toNat (27:Nat)&&true&&true then (bif okV (3:Nat) (p+(1:Nat)) (vrow (3:Nat) ts) then (bif roomA Tryz.prog q_5 (27:Nat)&&(Cont.vals q_4).allOne then (bif okV (3:Nat) q_1 fun j q=>vrow (3:Nat) us (j+Int.toNat (1:Int)) q then (bif decide (q_5*(3:Nat)≤(Cont.vals q_4).len)&&roomA Tryz.prog q_10 (27:Nat)&&q_27.allOne then (bif inR IntKind.i64 ((0:Int)+q_2) then (bif inR IntKind.i64 ((0:Int)+q_2+(↑q_1:Int)) then (bif inR IntKind.i64 q_16 then (bif decide ((0:Int) < (0:Int)+q_2+(↑q_1:Int) - (0:Int)) then (bif decide ((0:Int) < (0:Int)+q_2+(↑q_1:Int) - (0:Int))&&roomA Tryz.prog q_16.toNat (35:Nat)&&true&&true then (bif okV (6:Nat) (p+(1:Nat)) (vrow (6:Nat) ps) then (bif roomA Tryz.prog q_5 (35:Nat)&&(Cont.vals q_3).allOne then (bif okV (6:Nat) q_1 fun j q=>vrow (6:Nat) qs (j+Int.toNat (1:Int)) q then (bif decide (q_5*(6:Nat)≤(Cont.vals q_3).len)&&roomA Tryz.prog q_10 (35:Nat)&&q_11.allOne then (bif decide ((0:Nat)+q_10*(3:Nat)≤q_8.len) then (bif decide ((0:Nat)+q_10*(6:Nat)≤q_9.len) then some (.tup [(.agg [(.lst false 27 q_10 (contF q_8 [] (0:Nat) (3:Nat))),(.lst false 35 q_10 (contF q_9 [] (0:Nat) (6:Nat)))]),(.val (.int .i64 0))]) else none) else none) else none) else none) else none) else none) else none) else (bif okV (6:Nat) (p+(1:Nat)) (vrow (6:Nat) ps) then (bif roomA Tryz.prog (p+(1:Nat)) (35:Nat) then (bif okV (6:Nat) q_1 fun j q=>vrow (6:Nat) qs (j+Int.toNat (1:Int)) q then (bif decide ((p+(1:Nat))*(6:Nat)≤(Cont.vals q_3).len)&&roomA Tryz.prog (p+(1:Nat)+q_1) (35:Nat)&&q_11.allOne then (bif decide ((0:Nat)+q_10*(3:Nat)≤q_8.len) then (bif decide ((0:Nat)+(p+(1:Nat)+q_1)*(6:Nat)≤q_6.len) then some (.tup [(.agg [(.lst false 27 q_10 (contF q_8 [] (0:Nat) (3:Nat))),(.lst false 35 (p+(1:Nat)+q_1) (contF q_6 [] (0:Nat) (6:Nat)))]),(.val (.int .i64 0))]) else none) else none) else none) else none) else none) else none)) else none) else none) else none) else none) else none) else none) else none) else none) else (bif okV (3:Nat) (p+(1:Nat)) (vrow (3:Nat) ts) then (bif roomA Tryz.prog (p+(1:Nat)) (27:Nat) then (bif okV (3:Nat) q_1 fun j q=>vrow (3:Nat) us (j+Int.toNat (1:Int)) q then (bif decide ((p+(1:Nat))*(3:Nat)≤(Cont.vals q_4).len)&&roomA Tryz.prog (p+(1:Nat)+q_1) (27:Nat)&&q_27.allOne then (bif inR IntKind.i64 ((0:Int)+q_2) then (bif inR IntKind.i64 ((0:Int)+q_2+(↑q_1:Int)) then (bif inR IntKind.i64 q_16 then (bif decide ((0:Int) < (0:Int)+q_2+(↑q_1:Int) - (0:Int)) then (bif decide ((0:Int) < (0:Int)+q_2+(↑q_1:Int) - (0:Int))&&roomA Tryz.prog q_16.toNat (35:Nat)&&true&&true then (bif okV (6:Nat) (p+(1:Nat)) (vrow (6:Nat) ps) then (bif roomA Tryz.prog q_5 (35:Nat)&&(Cont.vals q_3).allOne then (bif okV (6:Nat) q_1 fun j q=>vrow (6:Nat) qs (j+Int.toNat (1:Int)) q then (bif decide (q_5*(6:Nat)≤(Cont.vals q_3).len)&&roomA Tryz.prog q_10 (35:Nat)&&q_11.allOne then (bif decide ((0:Nat)+(p+(1:Nat)+q_1)*(3:Nat)≤q_7.len) then (bif decide ((0:Nat)+q_10*(6:Nat)≤q_9.len) then some (.tup [(.agg [(.lst false 27 (p+(1:Nat)+q_1) (contF q_7 [] (0:Nat) (3:Nat))),(.lst false 35 q_10 (contF q_9 [] (0:Nat) (6:Nat)))]),(.val (.int .i64 0))]) else none) else none) else none) else none) else none) else none) else none) else (bif okV (6:Nat) (p+(1:Nat)) (vrow (6:Nat) ps) then (bif roomA Tryz.prog (p+(1:Nat)) (35:Nat) then (bif okV (6:Nat) q_1 fun j q=>vrow (6:Nat) qs (j+Int.toNat (1:Int)) q then (bif decide ((p+(1:Nat))*(6:Nat)≤(Cont.vals q_3).len)&&roomA Tryz.prog (p+(1:Nat)+q_1) (35:Nat)&&q_11.allOne then (bif decide ((0:Nat)+(p+(1:Nat)+q_1)*(3:Nat)≤q_7.len) then (bif decide ((0:Nat)+(p+(1:Nat)+q_1)*(6:Nat)≤q_6.len) then some (.tup [(.agg [(.lst false 27 (p+(1:Nat)+q_1) (contF q_7 [] (0:Nat) (3:Nat))),(.lst false 35 (p+(1:Nat)+q_1) (contF q_6 [] (0:Nat) (6:Nat)))]),(.val (.int .i64 0))]) else none) else none) else none) else none) else none) else none)) else none) else none) else none) else none) else none) else none) else none)) else none) else none) else none)) else none) else (bif inR IntKind.i64 (q_2+(↑(r+(1:Nat)):Int)) then (bif decide ((1000:Int) < q_2+(↑(r+(1:Nat)):Int)) then some (.tup [(.agg [(.val (.slice .none 0 0)),(.val (.slice .none 0 0))]),(.val (.int .i64 4))]) else (bif inR IntKind.i64 ((0:Int)+q_2) then (bif inR IntKind.i64 ((0:Int)+q_2+(↑(r+(1:Nat)):Int)) then (bif inR IntKind.i64 q_17 then (bif roomA Tryz.prog q_17.toNat (27:Nat)&&true&&true then (bif okV (3:Nat) (p+(1:Nat)) (vrow (3:Nat) ts) then (bif roomA Tryz.prog q_5 (27:Nat)&&(Cont.vals q_4).allOne then (bif okV (3:Nat) (r+(1:Nat)) (vrow (3:Nat) us) then (bif decide (q_5*(3:Nat)≤(Cont.vals q_4).len)&&roomA Tryz.prog q_15 (27:Nat)&&(Cont.vals q_23).allOne then (bif inR IntKind.i64 ((0:Int)+q_2) then (bif inR IntKind.i64 ((0:Int)+q_2+(↑(r+(1:Nat)):Int)) then (bif inR IntKind.i64 q_17 then (bif roomA Tryz.prog q_17.toNat (35:Nat)&&true&&true then (bif okV (6:Nat) (p+(1:Nat)) (vrow (6:Nat) ps) then (bif roomA Tryz.prog q_5 (35:Nat)&&(Cont.vals q_3).allOne then (bif okV (6:Nat) (r+(1:Nat)) (vrow (6:Nat) qs) then (bif decide (q_5*(6:Nat)≤(Cont.vals q_3).len)&&roomA Tryz.prog q_15 (35:Nat)&&(Cont.vals q_24).allOne then (bif decide ((0:Nat)+q_15*(3:Nat)≤q_25.len) then (bif decide ((0:Nat)+q_15*(6:Nat)≤q_26.len) then some (.tup [(.agg [(.lst false 27 q_15 (contF q_25 [] (0:Nat) (3:Nat))),(.lst false 35 q_15 (contF q_26 [] (0:Nat) (6:Nat)))]),(.val (.int .i64 0))]) else none) else none) else none) else none) else none) else none) else none) else none) else none) else none) else none) else none) else none) else none) else none) else none) else none) else none)) else none))) else none) else none)) else none) else none) else none) else none) else none) else none) else none) else none)) else none)) else none)):=by kernel_rfl
end
end Go.Proofs.YtamcpiicmfielaaGreat.L
namespace Go.Proofs.YtamcpiicmfielaaGreat.L
open Go Go.V Go.RowKit Go.Proofs.YtamcpiicmfielaaGreat.Sp
open Go.Proofs (Tryz.prog)
noncomputable section
structure Jn (n:Nat) (ts:List Value) (m:Nat) (us vs:List Value) (d:Nat):Prop where
 ha:TsOk n ts
 hb:TsOk m us
 n0:0 < n
 m0:0 < m
 d1:d≤1
 q1:∀ j,j < n→qt vs j=qt ts j
 q2:∀ j,j+d < m→qt vs (n+j)=qt us (j+d)
 e1:d=1→qt us 0=qt ts (n - 1)
 e0:d=0→qt ts (n - 1) < qt us 0
section
variable {n : Nat} {ts : List Value} {m : Nat} {us vs : List Value} {d : Nat} {ca cb cc : Nat → Rat} {x : Rat}
theorem jn_le (h:Jn n ts m us vs d) (c1:∀ j,j < n→cc j=ca j) (hx:¬ qt ts (n - 1) < x):pl1 (n+m - d) vs cc x=pl1 n ts ca x:=by
 have n0:=h.n0
 have m0:=h.m0
 have d1:=h.d1
 obtain ⟨g1,g2,g3⟩:=srN_is ts x n
 have hs:srN ts x n < n:=by
  refine Classical.byContradiction fun hc=>hx (g2 (n - 1) (by omega))
 have he:srN vs x (n+m - d)=srN ts x n:=(srN_uniq (by omega) (fun k hk=>by rw [h.q1 k (by omega)];exact g2 k hk) (fun _=>by rw [h.q1 _ hs];exact g3 hs)).symm
 unfold pl1
 rw [he]
 by_cases h0:srN ts x n=0
 ·rw [if_pos h0,if_pos h0,c1 0 n0]
 ·rw [if_neg h0,if_neg h0,if_neg (show ¬ srN ts x n=n+m - d by omega),if_neg (show ¬ srN ts x n=n by omega),c1 _ hs,c1 (srN ts x n - 1) (by omega),h.q1 _ hs,h.q1 (srN ts x n - 1) (by omega)]
theorem jn_shift {a:Nat} (h:Jn n ts m us vs d) (ha:a+d=n) (q:∀ i,i < m→qt vs (a+i)=qt us i) (c:∀ i,i < m→cc (a+i)=cb i) (hlo:∀ k,k < a→qt vs k < x) (hs:0 < srN us x m):pl1 (n+m - d) vs cc x=pl1 m us cb x:=by
 have n0:=h.n0
 have m0:=h.m0
 have d1:=h.d1
 obtain ⟨g1,g2,g3⟩:=srN_is us x m
 have he:srN vs x (n+m - d)=a+srN us x m:=(srN_uniq (by omega) (fun k hk=>by
  by_cases hk2:k < a
  ·exact hlo k hk2
  ·rw [show k=a+(k - a) by omega,q (k - a) (by omega)]
   exact g2 _ (by omega)) (fun _=>by rw [q _ (by omega)];exact g3 (by omega))).symm
 unfold pl1
 rw [he,if_neg (show ¬ a+srN us x m=0 by omega),if_neg (show ¬ srN us x m=0 by omega)]
 by_cases hm:srN us x m=m
 ·rw [if_pos hm,if_pos (show a+srN us x m=n+m - d by omega),show n+m - d - 1=a+(m - 1) by omega,c _ (by omega)]
 ·rw [if_neg hm,if_neg (show ¬ a+srN us x m=n+m - d by omega),show a+srN us x m - 1=a+(srN us x m - 1) by omega,c _ (by omega),c _ (by omega),q _ (by omega),q _ (by omega)]
theorem jn_gt (h:Jn n ts m us vs d) (c1:∀ j,j < n→cc j=ca j) (c2:∀ j,j+d < m→cc (n+j)=cb (j+d)) (c3:ca (n - 1)=cb 0) (hx:qt ts (n - 1) < x):pl1 (n+m - d) vs cc x=pl1 m us cb x:=by
 have n0:=h.n0
 have m0:=h.m0
 have d1:=h.d1
 obtain ⟨g1,g2,g3⟩:=srN_is us x m
 have hle:∀ k,k < n→qt ts k < x:=fun k hk=>by
  have:=h.ha.le (show k≤n - 1 by omega) (by omega)
  grind
 by_cases hd:d=1
 ·subst hd
  have e1:=h.e1 rfl
  refine jn_shift (a:=n - 1) h (by omega) (fun i hi=> ?_) (fun i hi=> ?_) (fun k hk=>by rw [h.q1 k (by omega)];exact hle k (by omega)) ?_
  ·by_cases h0:i=0
   ·subst h0
    rw [Nat.add_zero,h.q1 _ (by omega),e1]
   ·rw [show n - 1+i=n+(i - 1) by omega,h.q2 _ (by omega),show i - 1+1=i by omega]
  ·by_cases h0:i=0
   ·subst h0
    rw [Nat.add_zero,c1 _ (by omega),c3]
   ·rw [show n - 1+i=n+(i - 1) by omega,c2 _ (by omega),show i - 1+1=i by omega]
  ·refine Nat.pos_of_ne_zero fun h0=> ?_
   rw [h0] at g3
   have:=g3 m0
   rw [e1] at this
   exact this hx
 ·obtain rfl:d=0:=by omega
  by_cases h0:srN us x m=0
  ·have he:srN vs x (n+m - 0)=n:=(srN_uniq (by omega) (fun k hk=>by rw [h.q1 k hk];exact hle k hk) (fun _=>by
    have:=h.q2 0 (by omega)
    rw [Nat.add_zero] at this
    rw [this]
    rw [h0] at g3
    exact g3 m0)).symm
   unfold pl1
   have e2:=c2 0 (by omega)
   rw [Nat.add_zero] at e2
   rw [he,h0,if_neg (show ¬ n=0 by omega),if_neg (show ¬ n=n+m - 0 by omega),if_pos rfl,c1 _ (by omega),e2,c3]
   unfold at1N
   grind
  ·exact jn_shift (a:=n) h (by omega) (fun i hi=>h.q2 i (by omega)) (fun i hi=>c2 i (by omega)) (fun k hk=>by rw [h.q1 k hk];exact hle k hk) (by omega)
theorem jn_up (h:Jn n ts m us vs d) (j:Nat) (hj:j+1 < n+m - d):qt vs j < qt vs (j+1):=by
 have n0:=h.n0
 have m0:=h.m0
 have d1:=h.d1
 by_cases h1:j+1 < n
 ·rw [h.q1 j (by omega),h.q1 _ h1]
  exact h.ha.up j h1
 ·by_cases h2:j < n
  ·obtain rfl:j=n - 1:=by omega
   rw [h.q1 (n - 1) (by omega),show n - 1+1=n+0 by omega,h.q2 0 (by omega)]
   by_cases hd:d=1
   ·subst hd
    rw [← h.e1 rfl]
    exact h.hb.up 0 (by omega)
   ·obtain rfl:d=0:=by omega
    exact h.e0 rfl
  ·rw [show j=n+(j - n) by omega,h.q2 _ (by omega),show n+(j - n)+1=n+(j - n+1) by omega,h.q2 _ (by omega),show j - n+1+d=j - n+d+1 by omega]
   exact h.hb.up _ (by omega)
end
end
end Go.Proofs.YtamcpiicmfielaaGreat.L
namespace Go.Proofs.YtamcpiicmfielaaGreat.L
open Go Go.V Go.RowKit Go.Proofs.YtamcpiicmfielaaGreat.Sp
open Go.Proofs (Tryz.prog)
noncomputable section
def jnR (sz d:Nat) (ts us:List Value):List Value:=ts ++ us.drop (d*sz)
section
variable {sz n m d j q : Nat} {ts us vs ps : List Value}
theorem jnR_len (h1:ts.length=n*sz) (h2:us.length=m*sz):(jnR sz d ts us).length=(n+(m - d))*sz:=by
 unfold jnR
 rw [List.length_append,List.length_drop,h1,h2,← Nat.sub_mul,← Nat.add_mul]
theorem jnR_lo (h1:ts.length=n*sz) (hj:j < n) (hq:q < sz):(jnR sz d ts us).getD (j*sz+q) undef=ts.getD (j*sz+q) undef:=by
 have h2:=Nat.mul_le_mul_right sz (show j+1≤n from hj)
 rw [Nat.add_mul,Nat.one_mul] at h2
 unfold jnR
 rw [List.getD_eq_getElem?_getD,List.getElem?_append_left (by omega),← List.getD_eq_getElem?_getD]
theorem jnR_hi (h1:ts.length=n*sz):(jnR sz d ts us).getD ((n+j)*sz+q) undef=us.getD ((j+d)*sz+q) undef:=by
 have e1:(n+j)*sz+q=n*sz+(j*sz+q):=by rw [Nat.add_mul,Nat.add_assoc]
 have e2:(j+d)*sz+q=d*sz+(j*sz+q):=by rw [Nat.add_mul];omega
 unfold jnR
 rw [List.getD_eq_getElem?_getD,List.getElem?_append_right (by omega),h1,e1,Nat.add_sub_cancel_left,List.getElem?_drop,← e2,← List.getD_eq_getElem?_getD]
theorem same_qt {i:Nat} (h:∀ q,q < 3→vs.getD (j*3+q) undef=us.getD (i*3+q) undef):qt vs j=qt us i∧okX vs j=okX us i∧badX vs j=badX us i:=by
 have h0:=h 0 (by decide)
 have h1:=h 1 (by decide)
 have h2:=h 2 (by decide)
 unfold qt okX badX okT
 rw [h0,h1,h2]
 exact ⟨rfl,rfl,rfl⟩
theorem same_pt {i:Nat} (h:∀ q,q < 6→vs.getD (j*6+q) undef=us.getD (i*6+q) undef):px vs j=px us i∧py vs j=py us i∧okQ vs j=okQ us i∧kvP vs j=kvP us i:=by
 have h0:=h 0 (by decide)
 have h1:=h 1 (by decide)
 have h2:=h 2 (by decide)
 have h3:=h 3 (by decide)
 have h4:=h 4 (by decide)
 have h5:=h 5 (by decide)
 unfold px py okQ kvP okP qat
 rw [h0,h1,h2,h3,h4,h5]
 exact ⟨rfl,rfl,rfl,rfl⟩
end
section
variable {n m d : Nat} {ts us ps qs : List Value}
structure Jt (n:Nat) (ts ps:List Value) (m:Nat) (us qs:List Value) (d:Nat):Prop where
 pa:PlOk n ts n ps
 pb:PlOk m us m qs
 l1:ts.length=n*3
 l2:ps.length=n*6
 d1:d≤1
 lim:n+m≤1000
 e1:d=1→qt us 0=qt ts (n - 1)
 e0:d=0→qt ts (n - 1) < qt us 0
 ex:px ps (n - 1)=px qs 0
 ey:py ps (n - 1)=py qs 0
theorem Jt.jn (h:Jt n ts ps m us qs d):Jn n ts m us (jnR 3 d ts us) d where
 ha:=h.pa.ts
 hb:=h.pb.ts
 n0:=h.pa.pos
 m0:=h.pb.pos
 d1:=h.d1
 q1 j hj:=(same_qt fun q hq=>jnR_lo h.l1 hj hq).1
 q2 j hj:=(same_qt fun q hq=>jnR_hi h.l1).1
 e1:=h.e1
 e0:=h.e0
theorem Jt.pl (h:Jt n ts ps m us qs d):PlOk (n+m - d) (jnR 3 d ts us) (n+m - d) (jnR 6 d ps qs) where
 eq:=rfl
 pos:=by have:=h.pa.pos;have:=h.pb.pos;have:=h.d1;omega
 ts:= {
  lim:=by have:=h.lim;omega
  ok:=fun j hj=>by
   have hd:=h.d1
   by_cases h1:j < n
   ·rw [(same_qt fun q hq=>jnR_lo (d:=d) (us:=us) h.l1 h1 hq).2.1]
    exact h.pa.ts.ok j h1
   ·obtain ⟨k,rfl⟩:∃ k,j=n+k:= ⟨j - n,by omega⟩
    rw [(same_qt fun q hq=>jnR_hi (j:=k) (d:=d) (us:=us) (q:=q) h.l1).2.1]
    exact h.pb.ts.ok _ (by omega)
  up:=jn_up h.jn }
 pts:=fun j hj=>by
  have hd:=h.d1
  by_cases h1:j < n
  ·rw [(same_pt fun q hq=>jnR_lo (d:=d) (us:=qs) h.l2 h1 hq).2.2.1]
   exact h.pa.pts j h1
  ·obtain ⟨k,rfl⟩:∃ k,j=n+k:= ⟨j - n,by omega⟩
   rw [(same_pt fun q hq=>jnR_hi (j:=k) (d:=d) (us:=qs) (q:=q) h.l2).2.2.1]
   exact h.pb.pts _ (by omega)
 can:=fun j hj=>by
  have hd:=h.d1
  by_cases h1:j < n
  ·rw [(same_pt fun q hq=>jnR_lo (d:=d) (us:=qs) h.l2 h1 hq).2.2.2]
   exact h.pa.can j h1
  ·obtain ⟨k,rfl⟩:∃ k,j=n+k:= ⟨j - n,by omega⟩
   rw [(same_pt fun q hq=>jnR_hi (j:=k) (d:=d) (us:=qs) (q:=q) h.l2).2.2.2]
   exact h.pb.can _ (by omega)
theorem Jt.lo (h:Jt n ts ps m us qs d) {x:Rat} (hx:¬ qt ts (n - 1) < x):pl1 (n+m - d) (jnR 3 d ts us) (px (jnR 6 d ps qs)) x=pl1 n ts (px ps) x∧pl1 (n+m - d) (jnR 3 d ts us) (py (jnR 6 d ps qs)) x=pl1 n ts (py ps) x:=
 ⟨jn_le h.jn (fun j hj=>(same_pt fun q hq=>jnR_lo h.l2 hj hq).1) hx,jn_le h.jn (fun j hj=>(same_pt fun q hq=>jnR_lo h.l2 hj hq).2.1) hx⟩
theorem Jt.hi (h:Jt n ts ps m us qs d) {x:Rat} (hx:qt ts (n - 1) < x):pl1 (n+m - d) (jnR 3 d ts us) (px (jnR 6 d ps qs)) x=pl1 m us (px qs) x∧pl1 (n+m - d) (jnR 3 d ts us) (py (jnR 6 d ps qs)) x=pl1 m us (py qs) x:=
 ⟨jn_gt (ca:=px ps) h.jn (fun j hj=>(same_pt fun q hq=>jnR_lo h.l2 hj hq).1) (fun j hj=>(same_pt fun q hq=>jnR_hi h.l2).1) h.ex hx,jn_gt (ca:=py ps) h.jn (fun j hj=>(same_pt fun q hq=>jnR_lo h.l2 hj hq).2.1) (fun j hj=>(same_pt fun q hq=>jnR_hi h.l2).2.1) h.ey hx⟩
theorem badX_no {ts ps:List Value} {j:Nat} (h:ckE ts ps j=0):badX ts j=false:=by
 have h1:=(ckE_go h).1
 unfold badX
 rw [decide_eq_true (show sq0.ck (asB (ts.getD (j*3+0) undef)) (asS (ts.getD (j*3+1) undef)) (asS (ts.getD (j*3+2) undef))=0 from h1)];rfl
theorem Jt.ok (h:Jt n ts ps m us qs d) (ha:ckN n ts n ps=0) (hb:ckN m us m qs=0):koN (n+m - d) (jnR 3 d ts us) (n+m - d) (jnR 6 d ps qs)=true∧ckN (n+m - d) (jnR 3 d ts us) (n+m - d) (jnR 6 d ps qs)=0:=by
 have hp:=h.pl
 have hd:=h.d1
 have hlim:=hp.ts.lim
 have hpos:=hp.pos
 constructor
 ·unfold koN
  rw [Bool.and_eq_true,List.all_eq_true,List.all_eq_true]
  exact ⟨fun j hj=>hp.ts.ok j (List.mem_range.1 hj),fun j hj=>hp.pts j (List.mem_range.1 hj)⟩
 ·unfold ckN
  rw [if_neg (fun h=>h rfl),if_neg (show ¬ n+m - d=0 by omega),if_neg (show ¬ 1000 < n+m - d by omega)]
  refine ckL_zero fun j hj=> ?_
  unfold ckE
  have hx:badX (jnR 3 d ts us) j=false:=by
   by_cases h1:j < n
   ·rw [(same_qt fun q hq=>jnR_lo (d:=d) (us:=us) h.l1 h1 hq).2.2]
    exact badX_no ((ckN_ok ha).2.2.2 j h1)
   ·obtain ⟨k,rfl⟩:∃ k,j=n+k:= ⟨j - n,by omega⟩
    rw [(same_qt fun q hq=>jnR_hi (j:=k) (d:=d) (us:=us) (q:=q) h.l1).2.2]
    exact badX_no ((ckN_ok hb).2.2.2 (k+d) (by omega))
  have h1:¬ (badX (jnR 3 d ts us) j=true∨badP (jnR 6 d ps qs) j=true):=by
   unfold badP
   rw [hx,hp.can j hj]
   exact fun h=>h.elim (fun h=>by cases h) (fun h=>by cases h)
  have h2:¬ (0 < j∧0≤sq0.cq (qt (jnR 3 d ts us) (j - 1)) (qt (jnR 3 d ts us) j)):=fun ⟨h3,h4⟩=>by
   rw [cq_ge] at h4
   have:=hp.ts.up (j - 1) (by omega)
   rw [show j - 1+1=j by omega] at this
   exact h4 this
  rw [if_neg h1,if_neg h2]
def dJ (n:Nat) (ts us:List Value):Nat:= @ite Nat (qt us 0=qt ts (n - 1)) (Classical.propDecidable _) 1 0
theorem jt_of (l1:ts.length=n*3) (l2:ps.length=n*6) (ka:koN n ts n ps=true) (ca:ckN n ts n ps=0) (kb:koN m us m qs=true) (cb:ckN m us m qs=0) (lim:n+m≤1000) (hx:px ps (n - 1)=px qs 0) (hy:py ps (n - 1)=py qs 0) (ho:¬ qt us 0 < qt ts (n - 1)):Jt n ts ps m us qs (dJ n ts us):=by
 refine ⟨plOk_of ka ca,plOk_of kb cb,l1,l2, ?_,lim, ?_, ?_,hx,hy⟩
 ·unfold dJ;split <;> omega
 ·intro h
  unfold dJ at h
  split at h
  ·assumption
  ·cases h
 ·intro h
  unfold dJ at h
  split at h
  ·cases h
  ·grind
end
end
end Go.Proofs.YtamcpiicmfielaaGreat.L
namespace Go.Proofs.YtamcpiicmfielaaGreat.L
open Go Go.V Go.RowKit Go.Proofs.YtamcpiicmfielaaGreat.Sp
open Go.Proofs (Tryz.prog)
noncomputable section
def peqP (ps:List Value) (i:Nat) (qs:List Value) (j:Nat):Bool:=asB (ps.getD (i*6+0) undef)==asB (qs.getD (j*6+0) undef)&&(strEq (asS (ps.getD (i*6+1) undef)) (asS (qs.getD (j*6+1) undef))&&(strEq (asS (ps.getD (i*6+2) undef)) (asS (qs.getD (j*6+2) undef))&&true))&&(asB (ps.getD (i*6+3) undef)==asB (qs.getD (j*6+3) undef)&&(strEq (asS (ps.getD (i*6+4) undef)) (asS (qs.getD (j*6+4) undef))&&(strEq (asS (ps.getD (i*6+5) undef)) (asS (qs.getD (j*6+5) undef))&&true))&&true)
structure Jg where
 jo:Nat→List Value→Nat→List Value→Nat→List Value→Nat→List Value→Bool
 je:Nat→List Value→List Value→List Value→List Value→Int
 jd:Nat→List Value→List Value→Nat
def joN (n:Nat) (ts:List Value) (m:Nat) (ps:List Value) (n2:Nat) (us:List Value) (m2:Nat) (qs:List Value):Bool:= @decide (n=m∧n2=m2∧n≤10∧n2≤10∧koN n ts m ps=true∧ckN n ts m ps=0∧koN n2 us m2 qs=true∧ckN n2 us m2 qs=0) (Classical.propDecidable _)
def jeN (n:Nat) (ts ps us qs:List Value):Int:=if peqP ps (n - 1) qs 0=true then @ite Int (qt us 0 < qt ts (n - 1)) (Classical.propDecidable _) 8 0 else 9
def jg0:Jg:= ⟨joN,jeN,dJ⟩
def tJnO (J:Jg):TF:=fun args=>match args with
 | [.agg [.lst _ 27 n f, .lst _ 35 m g], .agg [.lst _ 27 n2 f2, .lst _ 35 m2 g2]]=>
  some (okV 3 n f&&okV 6 m g&&(okV 3 n2 f2&&okV 6 m2 g2)&&J.jo n (rowV 3 n f) m (rowV 6 m g) n2 (rowV 3 n2 f2) m2 (rowV 6 m2 g2)&&decide (J.je n (rowV 3 n f) (rowV 6 m g) (rowV 3 n2 f2) (rowV 6 m2 g2)=0),
   .tup [.agg [.lst false 27 (n+n2 - J.jd n (rowV 3 n f) (rowV 3 n2 f2)) (vrow 3 (jnR 3 (J.jd n (rowV 3 n f) (rowV 3 n2 f2)) (rowV 3 n f) (rowV 3 n2 f2))), .lst false 35 (n+n2 - J.jd n (rowV 3 n f) (rowV 3 n2 f2)) (vrow 6 (jnR 6 (J.jd n (rowV 3 n f) (rowV 3 n2 f2)) (rowV 6 m g) (rowV 6 m2 g2)))], .val (.int .i64 0)])
 | _=>none
def tJnE (J:Jg):TF:=fun args=>match args with
 | [.agg [.lst _ 27 n f, .lst _ 35 m g], .agg [.lst _ 27 n2 f2, .lst _ 35 m2 g2]]=>
  some (okV 3 n f&&okV 6 m g&&(okV 3 n2 f2&&okV 6 m2 g2)&&J.jo n (rowV 3 n f) m (rowV 6 m g) n2 (rowV 3 n2 f2) m2 (rowV 6 m2 g2)&& !decide (J.je n (rowV 3 n f) (rowV 6 m g) (rowV 3 n2 f2) (rowV 6 m2 g2)=0),
   .tup [.agg [.val (.slice none 0 0), .val (.slice none 0 0)], .val (.int .i64 (J.je n (rowV 3 n f) (rowV 6 m g) (rowV 3 n2 f2) (rowV 6 m2 g2)))])
 | _=>none
end
end Go.Proofs.YtamcpiicmfielaaGreat.L
namespace Go.Proofs.YtamcpiicmfielaaGreat.L
open Go Go.V Go.RowKit Go.Proofs.YtamcpiicmfielaaGreat.Sp
open Go.Proofs (Tryz.prog)
noncomputable section
theorem isB_of {x y z:Value} (h:isRat x y z=true):isB x=true∧isS y=true∧isS z=true:=by
 obtain ⟨h1,h2,h3⟩:=isRat_out h
 rw [h1,h2,h3]
 exact ⟨rfl,rfl,rfl⟩
theorem okV_sh {sz n k:Nat} {vs:List Value} :okV sz n (fun j q=>vrow sz vs (j+k) q)=true:=List.all_eq_true.2 fun i _=>rfl
theorem rowV_sh {sz n k:Nat} {vs:List Value} (h:vs.length=(n+k)*sz):rowV sz n (fun j q=>vrow sz vs (j+k) q)=vs.drop (k*sz):=by
 rw [Nat.add_mul] at h
 apply List.ext_getElem?
 intro i
 rw [List.getElem?_drop]
 by_cases hi:i < n*sz
 ·have hz:0 < sz:=Nat.pos_of_ne_zero fun h0=>by subst h0;omega
  have hd:=Nat.div_add_mod' i sz
  unfold rowV
  rw [List.getElem?_map,List.getElem?_range hi,List.getElem?_eq_getElem (show k*sz+i < vs.length by omega)]
  show some (vs.getD ((i / sz+k)*sz+i % sz) undef)=_
  rw [show (i / sz+k)*sz+i % sz=k*sz+i by rw [Nat.add_mul];omega,List.getD_eq_getElem?_getD,List.getElem?_eq_getElem (show k*sz+i < vs.length by omega)];rfl
 ·rw [List.getElem?_eq_none (by rw [rowV_len];omega),List.getElem?_eq_none (by omega)]
theorem allOne_t {n:Nat} {ts:List Value} (hl:ts.length=n*3) (h:∀ j,j < n→okX ts j=true):(Cont.vals ts).allOne=true:=by
 show ts.all (·.oneCell')=true
 rw [List.all_eq_true]
 intro v hv
 obtain ⟨i,hi,rfl⟩:=List.getElem_of_mem hv
 obtain ⟨k1,_⟩:=okX_out (h (i / 3) (by omega))
 obtain ⟨a1,a2,a3⟩:=isRat_out k1
 have e:ts[i]=ts.getD (i / 3*3+i % 3) undef:=by
  rw [Nat.div_add_mod',List.getD_eq_getElem?_getD,List.getElem?_eq_getElem hi];rfl
 rw [e]
 have h3:i % 3=0∨i % 3=1∨i % 3=2:=by omega
 rcases h3 with h3 | h3 | h3 <;> rw [h3]
 ·rw [a1];rfl
 ·rw [a2];rfl
 ·rw [a3];rfl
theorem allOne_drop {vs:List Value} (k:Nat) (h:(Cont.vals vs).allOne=true):(Cont.vals (vs.drop k)).allOne=true:=by
 have h:vs.all (·.oneCell')=true:=h
 show (vs.drop k).all (·.oneCell')=true
 rw [List.all_eq_true] at h ⊢
 exact fun v hv=>h v (List.mem_of_mem_drop hv)
def vJn (n:Nat) (ts ps:List Value) (n2:Nat) (us qs:List Value):AV:=
 bif decide (jeN n ts ps us qs=0) then .tup [.agg [.lst false 27 (n+n2 - dJ n ts us) (vrow 3 (jnR 3 (dJ n ts us) ts us)), .lst false 35 (n+n2 - dJ n ts us) (vrow 6 (jnR 6 (dJ n ts us) ps qs))], .val (.int .i64 0)]
 else .tup [.agg [.val (.slice none 0 0), .val (.slice none 0 0)], .val (.int .i64 (jeN n ts ps us qs))]
theorem CJn_ok:Meets Tryz.prog (CJn cg0 sq0):=((meets_none _).add eQCompare.gRR).add eChk
theorem cq_lt' {a b:Rat} :sq0.cq a b < 0↔a < b:=by
 have:= @cq_ge a b
 constructor
 ·intro h
  exact Classical.byContradiction fun h2=>by have:=this.2 h2;omega
 ·intro h
  exact Classical.byContradiction fun h2=>this.1 (by omega) h
theorem cq_gt2 {a b:Rat} :0 < sq0.cq a b↔b < a:=by
 show 0 < cqn a b↔_
 unfold cqn
 split
 ·rename_i h;exact ⟨fun h2=>by omega,fun h2=>by grind⟩
 ·split
  ·rename_i h;exact ⟨fun _=>h,fun _=>by omega⟩
  ·rename_i h;exact ⟨fun h2=>by omega,fun h2=>absurd h2 h⟩
theorem cq_eq' {a b:Rat} :sq0.cq a b=0↔a=b:=by
 have h1:= @cq_lt' a b
 have h2:= @cq_gt2 a b
 constructor
 ·intro h
  have n1:¬ a < b:=fun h3=>by have:=h1.2 h3;omega
  have n2:¬ b < a:=fun h3=>by have:=h2.2 h3;omega
  grind
 ·rintro rfl
  have n1:¬ sq0.cq a a < 0:=fun h3=>by have:=h1.1 h3;grind
  have n2:¬ 0 < sq0.cq a a:=fun h3=>by have:=h2.1 h3;grind
  omega
theorem join_val (p r:Nat) (ts ps us qs:List Value) (l1:ts.length=(p+1)*3) (l2:ps.length=(p+1)*6) (l3:us.length=(r+1)*3) (l4:qs.length=(r+1)*6)
  (ka:koN (p+1) ts (p+1) ps=true) (ca:ckN (p+1) ts (p+1) ps=0) (kb:koN (r+1) us (r+1) qs=true) (cb:ckN (r+1) us (r+1) qs=0) (hp:p+1≤10) (hr:r+1≤10):
  callA Tryz.prog ⟨CJn cg0 sq0,Kall,noL⟩ 10 10 22 [aTrj (p+1) ts (p+1) ps,aTrj (r+1) us (r+1) qs]=some (vJn (p+1) ts ps (r+1) us qs):=by
 have hA:=plOk_of ka ca
 have hB:=plOk_of kb cb
 have e1:((p+1:Nat):Int) - 1=(p:Int):=by omega
 obtain ⟨⟨a1,a2⟩,_,_⟩:=okQ_out (hA.pts p (by omega))
 obtain ⟨⟨b1,b2⟩,_,_⟩:=okQ_out (hB.pts 0 (by omega))
 obtain ⟨c1,c2⟩:=okX_out (hA.ts.ok p (by omega))
 obtain ⟨d1,d2⟩:=okX_out (hB.ts.ok 0 (by omega))
 simp only [Nat.zero_mul,Nat.zero_add] at b1 b2 d1 d2
 obtain ⟨x1,x2,x3⟩:=isB_of a1
 obtain ⟨x4,x5,x6⟩:=isB_of a2
 obtain ⟨y1,y2,y3⟩:=isB_of b1
 obtain ⟨y4,y5,y6⟩:=isB_of b2
 have o1:=allOne_t l1 hA.ts.ok
 have o2:=allOne_p l2 hA.pts
 have o3:=allOne_t l3 hB.ts.ok
 have o4:=allOne_p l4 hB.pts
 have q1:sq0.qv (asB (us.getD 0 undef)) (asS (us.getD 1 undef)) (asS (us.getD 2 undef))=qt us 0:=rfl
 rw [join_call]
 simp only [e1,Int.toNat_natCast,Nat.add_sub_cancel,Nat.zero_add,Int.zero_add,Int.sub_zero,rowV_vrow l1,rowV_vrow l2,rowV_vrow l3,rowV_vrow l4,okV_vrow,okV_sh,qt_eq,q1,show Int.toNat 1=1 from rfl,rowV_sh l3,rowV_sh l4]
 rw [show cg0.ko (p+1) ts (p+1) ps=true from ka,show cg0.ko (r+1) us (r+1) qs=true from kb,dT (show cg0.ck (p+1) ts (p+1) ps=0 from ca),dT (show cg0.ck (r+1) us (r+1) qs=0 from cb),
  i64T (z:=(p:Int)) (by omega),dT (show (0:Int)≤(p:Int) by omega),dT (show (p:Int) < ((p+1:Nat):Int) by omega),x1,x2,x3,x4,x5,x6,y1,y2,y3,y4,y5,y6]
 by_cases hpe:peqP ps p qs 0=true
 case neg=>
  have hj:jeN (p+1) ts ps us qs=9:=if_neg hpe
  unfold vJn
  rw [hj]
  rw [Bool.not_eq_true] at hpe
  unfold peqP at hpe
  simp only [Nat.zero_mul,Nat.zero_add] at hpe
  rw [hpe];rfl
 have hj:jeN (p+1) ts ps us qs= @ite Int (qt us 0 < qt ts p) (Classical.propDecidable _) 8 0:=if_pos hpe
 unfold peqP at hpe
 simp only [Nat.zero_mul,Nat.zero_add] at hpe
 rw [hpe,c1,okm_q c2,d1,okm_q d2]
 by_cases h8:qt us 0 < qt ts p
 ·rw [if_pos h8] at hj
  unfold vJn
  rw [hj,dT (cq_lt'.2 h8)];rfl
 rw [if_neg h8] at hj
 unfold vJn
 rw [hj,dF (fun h=>h8 (cq_lt'.1 h))]
 by_cases h0:qt us 0=qt ts p
 ·have hd:dJ (p+1) ts us=1:=if_pos h0
  rw [hd,dT (cq_eq'.2 h0)]
  have k1:((p+1:Nat):Int)+(r:Int)=((p+1+r:Nat):Int):=by omega
  have t1:List.take ((p+1)*3) ts=ts:=List.take_of_length_le (by omega)
  have t2:List.take ((p+1)*6) ps=ps:=List.take_of_length_le (by omega)
  have g1:=jnR_len (sz:=3) (d:=1) (n:=p+1) (m:=r+1) l1 l3
  have g2:=jnR_len (sz:=6) (d:=1) (n:=p+1) (m:=r+1) l2 l4
  unfold jnR at g1 g2
  simp only [k1,Int.toNat_natCast,t1,t2]
  rw [i64T (z:=((p+1+r:Nat):Int)) (by omega),dF (show ¬ (1000:Int) < ((p+1+r:Nat):Int) by omega),i64T (z:=((p+1:Nat):Int)) (by omega),dT (show (0:Int) < ((p+1+r:Nat):Int) by omega),room_rat' (m:=p+1+r) (by omega),room_rat' (m:=p+1) (by omega),room_pt' (m:=p+1+r) (by omega),room_pt' (m:=p+1) (by omega),o1,o2,allOne_drop _ o3,allOne_drop _ o4,
   dT (show (p+1)*3≤(Cont.vals ts).len from by show _≤ts.length;omega),dT (show (p+1)*6≤(Cont.vals ps).len from by show _≤ps.length;omega),
   dT (show (p+1+r)*3≤(Cont.vals (ts ++ List.drop (1*3) us)).len from by show _≤(ts ++ List.drop (1*3) us).length;rw [g1];omega),dT (show (p+1+r)*6≤(Cont.vals (ps ++ List.drop (1*6) qs)).len from by show _≤(ps ++ List.drop (1*6) qs).length;rw [g2];omega),contF_vrow',contF_vrow']
  unfold jnR
  rw [show p+1+(r+1) - 1=p+1+r by omega]
  rfl
 ·have hd:dJ (p+1) ts us=0:=if_neg h0
  rw [hd,dF (fun h=>h0 (cq_eq'.1 h))]
  have k1:((p+1:Nat):Int)+((r+1:Nat):Int)=((p+1+(r+1):Nat):Int):=by omega
  have t1:List.take ((p+1)*3) ts=ts:=List.take_of_length_le (by omega)
  have t2:List.take ((p+1)*6) ps=ps:=List.take_of_length_le (by omega)
  have g1:=jnR_len (sz:=3) (d:=0) (n:=p+1) (m:=r+1) l1 l3
  have g2:=jnR_len (sz:=6) (d:=0) (n:=p+1) (m:=r+1) l2 l4
  unfold jnR at g1 g2
  simp only [k1,Int.toNat_natCast,t1,t2]
  rw [i64T (z:=((p+1+(r+1):Nat):Int)) (by omega),dF (show ¬ (1000:Int) < ((p+1+(r+1):Nat):Int) by omega),i64T (z:=((p+1:Nat):Int)) (by omega),room_rat' (m:=p+1+(r+1)) (by omega),room_rat' (m:=p+1) (by omega),room_pt' (m:=p+1+(r+1)) (by omega),room_pt' (m:=p+1) (by omega),o1,o2,o3,o4,
   dT (show (p+1)*3≤(Cont.vals ts).len from by show _≤ts.length;omega),dT (show (p+1)*6≤(Cont.vals ps).len from by show _≤ps.length;omega),
   dT (show (p+1+(r+1))*3≤(Cont.vals (ts ++ us)).len from by show _≤(ts ++ us).length;rw [List.length_append];omega),dT (show (p+1+(r+1))*6≤(Cont.vals (ps ++ qs)).len from by show _≤(ps ++ qs).length;rw [List.length_append];omega)]
  rw [show jnR 3 0 ts us=ts ++ us from by unfold jnR;rw [Nat.zero_mul,List.drop_zero],show jnR 6 0 ps qs=ps ++ qs from by unfold jnR;rw [Nat.zero_mul,List.drop_zero],Nat.sub_zero]
  simp only [contF_vrow']
  rfl
theorem joN_out {n:Nat} {ts:List Value} {m:Nat} {ps:List Value} {n2:Nat} {us:List Value} {m2:Nat} {qs:List Value} (h:joN n ts m ps n2 us m2 qs=true):n=m∧n2=m2∧n≤10∧n2≤10∧koN n ts m ps=true∧ckN n ts m ps=0∧koN n2 us m2 qs=true∧ckN n2 us m2 qs=0:= @of_decide_eq_true _ (Classical.propDecidable _) h
theorem join_to {n:Nat} {ts:List Value} {m:Nat} {ps:List Value} {n2:Nat} {us:List Value} {m2:Nat} {qs:List Value} (l1:ts.length=n*3) (l2:ps.length=m*6) (l3:us.length=n2*3) (l4:qs.length=m2*6) (h:joN n ts m ps n2 us m2 qs=true):
  callA Tryz.prog ⟨CJn cg0 sq0,Kall,noL⟩ 10 10 22 [aTrj n ts m ps,aTrj n2 us m2 qs]=some (vJn n ts ps n2 us qs):=by
 obtain ⟨rfl,rfl,hn,hm,ka,ca,kb,cb⟩:=joN_out h
 have h1:=(ckN_ok ca).2.1
 have h2:=(ckN_ok cb).2.1
 obtain ⟨p,rfl⟩:∃ p,n=p+1:= ⟨n - 1,by omega⟩
 obtain ⟨r,rfl⟩:∃ r,n2=r+1:= ⟨n2 - 1,by omega⟩
 exact join_val p r ts ps us qs l1 l2 l3 l4 ka ca kb cb hn hm
theorem eJnO:Entry Tryz.prog 22 (tJnO jg0):=by
 refine entry_at (by kernel_rfl) (fun args r h=> ?_)
 unfold tJnO at h
 split at h
 ·rename_i fl n f fl2 m g fl3 n2 f2 fl4 m2 g2
  simp only [Option.some.injEq,Prod.mk.injEq,Bool.and_eq_true,decide_eq_true_eq] at h
  obtain ⟨⟨⟨⟨⟨h1,h2⟩,h3,h4⟩,h5⟩,h6⟩,rfl⟩:=h
  have h5:joN n (rowV 3 n f) m (rowV 6 m g) n2 (rowV 3 n2 f2) m2 (rowV 6 m2 g2)=true:=h5
  have h6:jeN n (rowV 3 n f) (rowV 6 m g) (rowV 3 n2 f2) (rowV 6 m2 g2)=0:=h6
  refine ⟨⟨CJn cg0 sq0,Kall,noL⟩,10,10,_,_,CJn_ok,loops_none,join_to (rowV_len 3 n f) (rowV_len 6 m g) (rowV_len 3 n2 f2) (rowV_len 6 m2 g2) h5,ImpL.cons (imp_trj h1 h2) (ImpL.cons (imp_trj h3 h4) (ImpL.refl _)), ?_⟩
  unfold vJn
  rw [dT h6]
  exact Imp.refl _
 ·cases h
theorem eJnE:Entry Tryz.prog 22 (tJnE jg0):=by
 refine entry_at (by kernel_rfl) (fun args r h=> ?_)
 unfold tJnE at h
 split at h
 ·rename_i fl n f fl2 m g fl3 n2 f2 fl4 m2 g2
  simp only [Option.some.injEq,Prod.mk.injEq,Bool.and_eq_true,Bool.not_eq_true',decide_eq_false_iff_not] at h
  obtain ⟨⟨⟨⟨⟨h1,h2⟩,h3,h4⟩,h5⟩,h6⟩,rfl⟩:=h
  have h5:joN n (rowV 3 n f) m (rowV 6 m g) n2 (rowV 3 n2 f2) m2 (rowV 6 m2 g2)=true:=h5
  have h6:¬ jeN n (rowV 3 n f) (rowV 6 m g) (rowV 3 n2 f2) (rowV 6 m2 g2)=0:=h6
  refine ⟨⟨CJn cg0 sq0,Kall,noL⟩,10,10,_,_,CJn_ok,loops_none,join_to (rowV_len 3 n f) (rowV_len 6 m g) (rowV_len 3 n2 f2) (rowV_len 6 m2 g2) h5,ImpL.cons (imp_trj h1 h2) (ImpL.cons (imp_trj h3 h4) (ImpL.refl _)), ?_⟩
  unfold vJn
  rw [dF h6]
  exact Imp.refl _
 ·cases h
end
end Go.Proofs.YtamcpiicmfielaaGreat.L
namespace Go.Proofs.YtamcpiicmfielaaGreat.L
open Go Go.V Go.ChangeShapes Go.WideShapes Go.RowKit Go.Deep Go.Joins Go.Proofs.YtamcpiicmfielaaGreat.Sp
open Go.Proofs (Tryz.prog)
noncomputable section
section
variable {H : Type} {enc : TypeId × Value → H} {w w' : World}
theorem back_arg {t:TypeId} {v:Value} {d:DataW H} {ps:List MemPlace} (hr:Tryz.prog.readableRec t=true) (hrow:t < Tryz.prog.types.size) (h:DataW.Trod enc Tryz.prog w 0 (fun _=>true) true t v d ps) (hb:Below w.heap.size w w'):
  DataW.Trod enc Tryz.prog w' 0 (fun b=>decide (b < w.heap.size)) true t v d ps:=
 Below.trod (by kernel_rfl) hr hrow h hb (fun x hx=>by obtain ⟨n,hn⟩:=h;exact DataW.trod_lt n _ _ _ hn x hx)
theorem slice_rel {t e:TypeId} {fuel:Nat} {v:Value} {x:DataW H×List MemPlace} (ht:Tryz.prog.underlying t=some (.slice e)) (hc:0 < Tryz.prog.cellsOf e) (h:DataW.trod enc Tryz.prog w 0 (fun _=>true) true fuel t [v]=some x):
  ∃ (n:Nat) (f:Nat→Nat→Value),n≤9223372036854775807∧(AV.lst false e n (fun j q=> .val (f j q))).Rel Tryz.prog NoA (fun _=>False) w NoD v∧∀ j,j < n→∃ m y,DataW.trod enc Tryz.prog w 0 (fun _=>true) true m e ((List.range (Tryz.prog.cellsOf e)).map (f j))=some y:=by
 rcases open_slice ht h with ⟨h0,_⟩ | ⟨a,len,cap,m,n,D,Pl,h0,hb,hl,hm,hmm,_,hx⟩
 ·cases h0
  exact ⟨0,fun _ _=>undef,Nat.zero_le _, ⟨none,0,rfl,Nat.le_refl _,(fun h=>by cases h), .inl rfl⟩,fun j hj=>by omega⟩
 ·cases h0
  have hm2:m=cap:=by rw [hmm];rfl
  have hmx:cap≤9223372036854775807:=hm
  by_cases hl0:len=0
  ·subst hl0
   exact ⟨0,fun _ _=>undef,Nat.zero_le _, ⟨some a,_,rfl,hl,(fun h=>by cases h), .inl rfl⟩,fun j hj=>by omega⟩
  ·obtain ⟨cs,hcs⟩:=choose_lt (α:=List Value) (p:=fun i l=>w.cells? 0 (a.add (i*Tryz.prog.cellsOf e)) (Tryz.prog.cellsOf e)=some l∧DataW.trod enc Tryz.prog w 0 (fun _=>true) true n e l=some (D i,Pl i)) (n:=len) (fun i hi=>hx i (by omega))
   have hcell:∀ j,j < len→(cs j).length=Tryz.prog.cellsOf e∧∀ q,q < Tryz.prog.cellsOf e→w.cell? (a.add (j*Tryz.prog.cellsOf e+q))=some ((cs j).getD q undef):=fun j hj=>by
    obtain ⟨_,h2,h3⟩:=World.cells?_some (hcs j hj).1
    refine ⟨h2,fun q hq=> ?_⟩
    have:=h3 q hq
    rw [add_add] at this
    rw [this,List.getD_eq_getElem?_getD,List.getElem?_eq_getElem (show q < (cs j).length by omega)];rfl
   have h00:=(hcell 0 (by omega)).2 0 hc
   have hsp:a.spot=none:=by
    have:a.add (0*Tryz.prog.cellsOf e+0)=a:=by rw [Nat.zero_mul];rfl
    rw [this] at h00
    exact World.cell?_spot h00
   obtain ⟨b,o,spot⟩:=a
   have hsp:spot=none:=hsp
   subst hsp
   have hadd:∀ i,(⟨b,o,none⟩:Addr).add i= ⟨b,o+i,none⟩:=fun i=>by
    unfold Addr.add
    split
    ·rename_i h;subst h;rfl
    ·rfl
   rw [hadd] at h00
   have hheap:∃ c ty fr,w.heap[b]? =some (.cells c ty fr):=by
    unfold World.cell? at h00
    simp only at h00
    split at h00
    ·rename_i c ty fr hh;exact ⟨c,ty,fr,hh⟩
    ·cases h00
   obtain ⟨c,ty,fr,hh⟩:=hheap
   have hget:∀ i y,w.cell? ⟨b,i,none⟩=some y→c[i]? =some y:=fun i y h=>by
    unfold World.cell? at h
    simp only [hh] at h
    exact h
   have hrel:(AV.lst false e len (fun j q=> .val ((cs j).getD q undef))).Rel Tryz.prog NoA (fun _=>False) w NoD (.slice (some ⟨b,o,none⟩) len cap):=by
    refine ⟨some ⟨b,o,none⟩,cap,rfl,hl,(fun h=>by cases h), .inr ⟨b,o,c,ty,fr,rfl,(fun h=>h),hh,fun j k hj hk=> ⟨(cs j).getD k undef, ?_,rfl⟩⟩⟩
    have:=(hcell j hj).2 k hk
    rw [hadd] at this
    rw [Nat.add_assoc]
    exact hget _ _ this
   refine ⟨len,fun j q=>(cs j).getD q undef,by omega,hrel,fun j hj=> ⟨n,(D j,Pl j), ?_⟩⟩
   have e1:(List.range (Tryz.prog.cellsOf e)).map (fun q=>(cs j).getD q undef)=cs j:=by
    have hl2:=(hcell j hj).1
    apply List.ext_getElem?
    intro i
    by_cases hi:i < Tryz.prog.cellsOf e
    ·rw [List.getElem?_map,List.getElem?_range hi,List.getElem?_eq_getElem (show i < (cs j).length by omega),Option.map_some,List.getD_eq_getElem?_getD,List.getElem?_eq_getElem (show i < (cs j).length by omega)];rfl
    ·rw [List.getElem?_eq_none (by simp;omega),List.getElem?_eq_none (by omega)]
   rw [e1]
   exact (hcs j hj).2
theorem cells_rat {fuel:Nat} {a b c:Value} {x:DataW H×List MemPlace} (h:DataW.trod enc Tryz.prog w 0 (fun _=>true) true fuel 27 [a,b,c]=some x):isRat a b c=true:=by
 obtain ⟨y0,y1,y2,n,_,_,h0,h1,h2⟩:=trod_struct3 (Tryz.underlying27) h
 have e0:Tryz.prog.cellsOf 4=1:=by kernel_rfl
 have e1:Tryz.prog.cellsOf 9=1:=by kernel_rfl
 simp only [e0,e1] at h0 h1 h2
 obtain ⟨b1,q1,_⟩:=DataW.trod_bool (show Tryz.prog.underlying _=some .bool from by kernel_rfl) h0
 obtain ⟨s1,q2,_⟩:=DataW.trod_string (show Tryz.prog.underlying _=some .string from by kernel_rfl) h1
 obtain ⟨s2,q3,_⟩:=DataW.trod_string (show Tryz.prog.underlying _=some .string from by kernel_rfl) h2
 cases q1;cases q2;cases q3
 rfl
theorem cells_pt {fuel:Nat} {a b c d e f:Value} {x:DataW H×List MemPlace} (h:DataW.trod enc Tryz.prog w 0 (fun _=>true) true fuel 35 [a,b,c,d,e,f]=some x):isRat a b c=true∧isRat d e f=true:=by
 obtain ⟨y0,y1,n,_,_,h0,h1⟩:=trod_struct2 (Tryz.underlying35) h
 have e0:Tryz.prog.cellsOf 27=3:=by kernel_rfl
 simp only [e0] at h0 h1
 exact ⟨cells_rat h0,cells_rat h1⟩
theorem row6 {l:List Value} (n:Nat) (f:Nat→Nat→Value) {j q:Nat} (sz:Nat) (hj:j < n) (hq:q < sz):(rowV sz n (fun j q=> .val (f j q))).getD (j*sz+q) undef=f j q:=by
 have h:=rowV_at (sz:=sz) (m:=n) (f:=fun j q=> .val (f j q)) (List.all_eq_true.2 fun i _=>rfl) hj hq
 exact (AV.val.inj h).symm
theorem arg_pts0 {fuel:Nat} {v:Value} {x:DataW H×List MemPlace} (h:DataW.trod enc Tryz.prog w 0 (fun _=>true) true fuel 23 [v]=some x):
  ∃ (n:Nat) (ps:List Value),ps.length=n*6∧okpN n ps=true∧(AV.lst false 35 n (vrow 6 ps)).Rel Tryz.prog NoA (fun _=>False) w NoD v:=by
 have ec:Tryz.prog.cellsOf 35=6:=by kernel_rfl
 obtain ⟨n,f,hn,hr,hx⟩:=slice_rel (e:=35) (by kernel_rfl) (by rw [ec];decide) h
 refine ⟨n,rowV 6 n (fun j q=> .val (f j q)),rowV_len _ _ _, ?_,row_normV (by kernel_rfl) (List.all_eq_true.2 fun i _=>rfl) hr⟩
 unfold okpN
 rw [Bool.and_eq_true,decide_eq_true_eq,List.all_eq_true]
 refine ⟨hn,fun j hj=> ?_⟩
 rw [List.mem_range] at hj
 obtain ⟨m,y,hy⟩:=hx j hj
 rw [ec] at hy
 obtain ⟨k1,k2⟩:=cells_pt (show DataW.trod enc Tryz.prog w 0 (fun _=>true) true m 35 [f j 0,f j 1,f j 2,f j 3,f j 4,f j 5]=some y from hy)
 unfold okP
 rw [row6 (l:= []) n f 6 hj (by decide),row6 (l:= []) n f 6 hj (by decide),row6 (l:= []) n f 6 hj (by decide),row6 (l:= []) n f 6 hj (by decide),row6 (l:= []) n f 6 hj (by decide),row6 (l:= []) n f 6 hj (by decide),k1,k2];rfl
theorem arg_rats0 {fuel:Nat} {v:Value} {x:DataW H×List MemPlace} (h:DataW.trod enc Tryz.prog w 0 (fun _=>true) true fuel 22 [v]=some x):
  ∃ (n:Nat) (ts:List Value),ts.length=n*3∧okTs n ts=true∧(AV.lst false 27 n (vrow 3 ts)).Rel Tryz.prog NoA (fun _=>False) w NoD v:=by
 have ec:Tryz.prog.cellsOf 27=3:=by kernel_rfl
 obtain ⟨n,f,hn,hr,hx⟩:=slice_rel (e:=27) (by kernel_rfl) (by rw [ec];decide) h
 refine ⟨n,rowV 3 n (fun j q=> .val (f j q)),rowV_len _ _ _, ?_,row_normV (by kernel_rfl) (List.all_eq_true.2 fun i _=>rfl) hr⟩
 unfold okTs
 rw [Bool.and_eq_true,decide_eq_true_eq,List.all_eq_true]
 refine ⟨hn,fun j hj=> ?_⟩
 rw [List.mem_range] at hj
 obtain ⟨m,y,hy⟩:=hx j hj
 rw [ec] at hy
 have k1:=cells_rat (show DataW.trod enc Tryz.prog w 0 (fun _=>true) true m 27 [f j 0,f j 1,f j 2]=some y from hy)
 unfold okT
 rw [row6 (l:= []) n f 3 hj (by decide),row6 (l:= []) n f 3 hj (by decide),row6 (l:= []) n f 3 hj (by decide),k1]
theorem arg_trj {cs:Array Value} {d:DataW H} {p:List MemPlace} (h:DataW.Trod enc Tryz.prog w 0 (fun _=>true) true 25 (.agg cs) d p):
  ∃ (n:Nat) (ts:List Value) (m:Nat) (ps:List Value),ts.length=n*3∧okTs n ts=true∧ps.length=m*6∧okpN m ps=true∧(AV.agg [.lst false 27 n (vrow 3 ts), .lst false 35 m (vrow 6 ps)]).Rel Tryz.prog NoA (fun _=>False) w NoD (.agg cs):=by
 obtain ⟨k,hk⟩:=h
 have hk:DataW.trod enc Tryz.prog w 0 (fun _=>true) true k 25 cs.toList=some (d,p):=hk
 obtain ⟨y0,y1,n,_,hl,h0,h1⟩:=trod_struct2 (Tryz.underlying25) hk
 have ec:Tryz.prog.cellsOf 25=2:=by kernel_rfl
 have e0:Tryz.prog.cellsOf 22=1:=by kernel_rfl
 have e1:Tryz.prog.cellsOf 23=1:=by kernel_rfl
 rw [ec] at hl
 obtain ⟨l⟩:=cs
 have hl2:∃ a b,l= [a,b]:=by
  cases l with
  | nil=>cases hl
  | cons a l=>cases l with
   | nil=>cases hl
   | cons b l=>cases l with
    | nil=>exact ⟨a,b,rfl⟩
    | cons c l=>exact absurd hl (by simp)
 obtain ⟨a,b,rfl⟩:=hl2
 simp only [e0,e1] at h0 h1
 obtain ⟨n1,ts,q1,q2,q3⟩:=arg_rats0 h0
 obtain ⟨m1,ps,r1,r2,r3⟩:=arg_pts0 h1
 exact ⟨n1,ts,m1,ps,q1,q2,r1,r2,_,rfl,a,_,rfl,q3,b,_,rfl,r3,rfl⟩
end
end
end Go.Proofs.YtamcpiicmfielaaGreat.L
namespace Go.Proofs.YtamcpiicmfielaaGreat.L
open Go Go.V Go.RowKit Go.Proofs.YtamcpiicmfielaaGreat.Sp
open Go.Proofs (Tryz.prog)
noncomputable section
def tNoJ:TF:=fun _=>some (false, .any)
theorem eNoJ {g:FuncId} :Entry Tryz.prog g tNoJ:=fun args r h=>by cases h
def CFk (G:Gg) (C:Cg) (K:Hg) (Z:Qg) (E:FuncId→TF):FuncId→TF:=addC 7 (tGT G) (addC 19 (tChk C) (addC 8 (tGreat K) (addC 49 (tQCheck Z) (addC 9 tAwS E))))
def CJl (G:Gg) (C:Cg) (K:Hg) (A:Ag) (J:Jg) (Z:Qg):FuncId→TF:=CFk G C K Z (addC 22 (tJnO J) (addC 12 (tAt A Z) (addC 18 (tChk C) (addC 23 (gRR (tQCompare Z)) noC))))
def CJe (G:Gg) (C:Cg) (K:Hg) (J:Jg) (Z:Qg):FuncId→TF:=CFk G C K Z (addC 22 (tJnE J) (addC 12 tNoJ (addC 23 (gRR (tQCompare Z)) noC)))
theorem joined_o (G:Gg) (C:Cg) (K:Hg) (A:Ag) (J:Jg) (Z:Qg) (n:Nat) (ts:List Value) (m:Nat) (ps:List Value) (n2:Nat) (us:List Value) (m2:Nat) (qs:List Value) (xb:Bool) (xn xd:BA):letI q_5:=(rowV (3:Nat) n (vrow (3:Nat) ts));letI q_4:=(rowV (3:Nat) n2 (vrow (3:Nat) us));letI q_1:=(n+n2 - J.jd n q_5 q_4);letI q_15:=(vrow (3:Nat) (jnR (3:Nat) (J.jd n q_5 q_4) q_5 q_4));letI q_2:=(rowV (3:Nat) q_1 q_15);letI q_7:=(rowV (6:Nat) m (vrow (6:Nat) ps));letI q_6:=(rowV (6:Nat) m2 (vrow (6:Nat) qs));letI q_16:=(vrow (6:Nat) (jnR (6:Nat) (J.jd n q_5 q_4) q_7 q_6));letI q_3:=(rowV (6:Nat) q_1 q_16);letI q_8:=(A.ax q_1 q_2 q_1 q_3 xb xn xd);letI q_9:=(A.ay q_1 q_2 q_1 q_3 xb xn xd);letI q_10:=((↑n:Int) - (1:Int));letI q_11:=(A.ax n2 q_4 m2 q_6 xb xn xd);letI q_12:=(A.ay n2 q_4 m2 q_6 xb xn xd);letI q_13:=(A.ax n q_5 m q_7 xb xn xd);letI q_14:=(A.ay n q_5 m q_7 xb xn xd);letI q_17:=(ts.getD (q_10.toNat*(3:Nat)+(1:Nat)) undef);letI q_18:=(ts.getD (q_10.toNat*(3:Nat)+(2:Nat)) undef);
  (callA Tryz.prog ⟨CJl G C K A J Z,Kall,noL⟩ 10 10 4 [aTrj n ts m ps,aTrj n2 us m2 qs,w3 xb xn xd]=(bif okV (3:Nat) n (vrow (3:Nat) ts)&&okV (6:Nat) m (vrow (6:Nat) ps)&&G.go n q_5 m q_7 then (bif G.gt n q_5 m q_7 then some (.val (.bool true)) else (bif okV (3:Nat) n (vrow (3:Nat) ts)&&okV (6:Nat) m (vrow (6:Nat) ps)&&C.ko n q_5 m q_7 then (bif !decide (C.ck n q_5 m q_7=(0:Int)) then some (.val (.bool true)) else (bif okV (3:Nat) n2 (vrow (3:Nat) us)&&okV (6:Nat) m2 (vrow (6:Nat) qs)&&G.go n2 q_4 m2 q_6 then (bif G.gt n2 q_4 m2 q_6 then some (.val (.bool true)) else (bif okV (3:Nat) n2 (vrow (3:Nat) us)&&okV (6:Nat) m2 (vrow (6:Nat) qs)&&C.ko n2 q_4 m2 q_6 then (bif !decide (C.ck n2 q_4 m2 q_6=(0:Int)) then some (.val (.bool true)) else (bif K.gr xn xd then some (.val (.bool true)) else (bif Z.ok xn xd then (bif !decide (Z.ck xb xn xd=(0:Int)) then some (.val (.bool true)) else (bif okV (3:Nat) n (vrow (3:Nat) ts)&&okV (6:Nat) m (vrow (6:Nat) ps)&&(okV (3:Nat) n2 (vrow (3:Nat) us)&&okV (6:Nat) m2 (vrow (6:Nat) qs))&&J.jo n q_5 m q_7 n2 q_4 m2 q_6&&decide (J.je n q_5 q_7 q_4 q_6=(0:Int)) then (bif inR IntKind.i64 q_10 then (bif okV (3:Nat) q_1 q_15&&okV (6:Nat) q_1 q_16&&A.ak q_1 q_2 q_1 q_3 xn xd then (bif okV (3:Nat) n (vrow (3:Nat) ts)&&okV (6:Nat) m (vrow (6:Nat) ps)&&A.ak n q_5 m q_7 xn xd then (bif okV (3:Nat) n2 (vrow (3:Nat) us)&&okV (6:Nat) m2 (vrow (6:Nat) qs)&&A.ak n2 q_4 m2 q_6 xn xd then (bif !decide (A.ae q_1 q_2 q_1 q_3 xb xn xd=(0:Int)) then some (.val (.bool false)) else (bif !decide (A.ae n q_5 m q_7 xb xn xd=(0:Int)) then some (.val (.bool false)) else (bif !decide (A.ae n2 q_4 m2 q_6 xb xn xd=(0:Int)) then some (.val (.bool false)) else (bif okV (3:Nat) q_1 q_15&&okV (6:Nat) q_1 q_16&&C.ko q_1 q_2 q_1 q_3 then (bif !decide (C.ck q_1 q_2 q_1 q_3=(0:Int)) then some (.val (.bool false)) else (bif decide ((0:Int)≤(↑n:Int) - (1:Int))&&decide ((↑n:Int) - (1:Int) < (↑n:Int)) then (bif isRat (ts.getD (q_10.toNat*(3:Nat)+(0:Nat)) undef) q_17 q_18&&(Z.ok xn xd&&Z.ok (asS q_17) (asS q_18)) then (bif decide (Z.cq (Z.qv xb xn xd) (Z.qv (asB (ts.getD (q_10.toNat*(3:Nat)+(0:Nat)) undef)) (asS q_17) (asS q_18))≤(0:Int)) then (bif bif false then !(Z.qn q_8==Z.qn q_13&&(strEq (Z.qs q_8) (Z.qs q_13)&&(strEq (Z.qd q_8) (Z.qd q_13)&&true))&&(Z.qn q_9==Z.qn q_14&&(strEq (Z.qs q_9) (Z.qs q_14)&&(strEq (Z.qd q_9) (Z.qd q_14)&&true))&&true)) else Z.qn q_8==Z.qn q_13&&(strEq (Z.qs q_8) (Z.qs q_13)&&(strEq (Z.qd q_8) (Z.qd q_13)&&true))&&(Z.qn q_9==Z.qn q_14&&(strEq (Z.qs q_9) (Z.qs q_14)&&(strEq (Z.qd q_9) (Z.qd q_14)&&true))&&true) then some (.val (.bool true)) else some (.val (.bool false))) else (bif bif false then !(Z.qn q_8==Z.qn q_11&&(strEq (Z.qs q_8) (Z.qs q_11)&&(strEq (Z.qd q_8) (Z.qd q_11)&&true))&&(Z.qn q_9==Z.qn q_12&&(strEq (Z.qs q_9) (Z.qs q_12)&&(strEq (Z.qd q_9) (Z.qd q_12)&&true))&&true)) else Z.qn q_8==Z.qn q_11&&(strEq (Z.qs q_8) (Z.qs q_11)&&(strEq (Z.qd q_8) (Z.qd q_11)&&true))&&(Z.qn q_9==Z.qn q_12&&(strEq (Z.qs q_9) (Z.qs q_12)&&(strEq (Z.qd q_9) (Z.qd q_12)&&true))&&true) then some (.val (.bool true)) else some (.val (.bool false)))) else none) else none)) else none)))) else none) else none) else none) else none) else none)) else none))) else none)) else none)) else none)) else none)):=by kernel_rfl
theorem joined_e (G:Gg) (C:Cg) (K:Hg) (J:Jg) (Z:Qg) (n:Nat) (ts:List Value) (m:Nat) (ps:List Value) (n2:Nat) (us:List Value) (m2:Nat) (qs:List Value) (xb:Bool) (xn xd:BA):letI q_1:=((↑n:Int) - (1:Int));letI q_5:=(rowV (3:Nat) n (vrow (3:Nat) ts));letI q_6:=(rowV (6:Nat) m (vrow (6:Nat) ps));letI q_3:=(rowV (3:Nat) n2 (vrow (3:Nat) us));letI q_4:=(rowV (6:Nat) m2 (vrow (6:Nat) qs));letI q_2:Option AV:=(bif decide (J.je n q_5 q_6 q_3 q_4=(9:Int)) then some (.val (.bool true)) else (bif decide (J.je n q_5 q_6 q_3 q_4=(8:Int)) then some (.val (.bool true)) else some (.val (.bool false))));letI q_7:=(strEq (asS (ps.getD (q_1.toNat*(6:Nat)+(1:Nat)) undef)) (asS (qs.getD (1:Nat) undef))&&(strEq (asS (ps.getD (q_1.toNat*(6:Nat)+(2:Nat)) undef)) (asS (qs.getD (2:Nat) undef))&&true));letI q_8:=(strEq (asS (ps.getD (q_1.toNat*(6:Nat)+(4:Nat)) undef)) (asS (qs.getD (4:Nat) undef))&&(strEq (asS (ps.getD (q_1.toNat*(6:Nat)+(5:Nat)) undef)) (asS (qs.getD (5:Nat) undef))&&true));letI q_9:=(ps.getD (q_1.toNat*(6:Nat)+(0:Nat)) undef);letI q_10:=(ps.getD (q_1.toNat*(6:Nat)+(3:Nat)) undef);letI q_11:=(ts.getD (q_1.toNat*(3:Nat)+(1:Nat)) undef);letI q_12:=(ts.getD (q_1.toNat*(3:Nat)+(2:Nat)) undef);
  (callA Tryz.prog ⟨CJe G C K J Z,Kall,noL⟩ 10 10 4 [aTrj n ts m ps,aTrj n2 us m2 qs,w3 xb xn xd]=(bif okV (3:Nat) n (vrow (3:Nat) ts)&&okV (6:Nat) m (vrow (6:Nat) ps)&&G.go n q_5 m q_6 then (bif G.gt n q_5 m q_6 then some (.val (.bool true)) else (bif okV (3:Nat) n (vrow (3:Nat) ts)&&okV (6:Nat) m (vrow (6:Nat) ps)&&C.ko n q_5 m q_6 then (bif !decide (C.ck n q_5 m q_6=(0:Int)) then some (.val (.bool true)) else (bif okV (3:Nat) n2 (vrow (3:Nat) us)&&okV (6:Nat) m2 (vrow (6:Nat) qs)&&G.go n2 q_3 m2 q_4 then (bif G.gt n2 q_3 m2 q_4 then some (.val (.bool true)) else (bif okV (3:Nat) n2 (vrow (3:Nat) us)&&okV (6:Nat) m2 (vrow (6:Nat) qs)&&C.ko n2 q_3 m2 q_4 then (bif !decide (C.ck n2 q_3 m2 q_4=(0:Int)) then some (.val (.bool true)) else (bif K.gr xn xd then some (.val (.bool true)) else (bif Z.ok xn xd then (bif !decide (Z.ck xb xn xd=(0:Int)) then some (.val (.bool true)) else (bif okV (3:Nat) n (vrow (3:Nat) ts)&&okV (6:Nat) m (vrow (6:Nat) ps)&&(okV (3:Nat) n2 (vrow (3:Nat) us)&&okV (6:Nat) m2 (vrow (6:Nat) qs))&&J.jo n q_5 m q_6 n2 q_3 m2 q_4&& !decide (J.je n q_5 q_6 q_3 q_4=(0:Int)) then (bif inR IntKind.i64 q_1 then (bif !decide (J.je n q_5 q_6 q_3 q_4=(0:Int)) then (bif decide ((0:Int)≤(↑n:Int) - (1:Int))&&decide ((↑n:Int) - (1:Int) < (↑m:Int)) then (bif decide ((0:Int) < (↑m2:Int)) then (bif isB q_9&&isB (qs.getD (0:Nat) undef) then (bif isS (ps.getD (q_1.toNat*(6:Nat)+(1:Nat)) undef)&&isS (qs.getD (1:Nat) undef) then (bif isS (ps.getD (q_1.toNat*(6:Nat)+(2:Nat)) undef)&&isS (qs.getD (2:Nat) undef) then (bif isB q_10&&isB (qs.getD (3:Nat) undef) then (bif isS (ps.getD (q_1.toNat*(6:Nat)+(4:Nat)) undef)&&isS (qs.getD (4:Nat) undef) then (bif isS (ps.getD (q_1.toNat*(6:Nat)+(5:Nat)) undef)&&isS (qs.getD (5:Nat) undef) then (bif bif false then !(asB q_9==asB (qs.getD (0:Nat) undef)&&q_7&&(asB q_10==asB (qs.getD (3:Nat) undef)&&q_8&&true)) else asB q_9==asB (qs.getD (0:Nat) undef)&&q_7&&(asB q_10==asB (qs.getD (3:Nat) undef)&&q_8&&true) then (bif decide ((0:Int)≤(↑n:Int) - (1:Int))&&decide ((↑n:Int) - (1:Int) < (↑n:Int)) then (bif decide ((0:Int) < (↑n2:Int)) then (bif isRat (ts.getD (q_1.toNat*(3:Nat)+(0:Nat)) undef) q_11 q_12&&isRat (us.getD (0:Nat) undef) (us.getD (1:Nat) undef) (us.getD (2:Nat) undef)&&(Z.ok (asS q_11) (asS q_12)&&Z.ok (asS (us.getD (1:Nat) undef)) (asS (us.getD (2:Nat) undef))) then (bif !decide (Z.cq (Z.qv (asB (ts.getD (q_1.toNat*(3:Nat)+(0:Nat)) undef)) (asS q_11) (asS q_12)) (Z.qv (asB (us.getD (0:Nat) undef)) (asS (us.getD (1:Nat) undef)) (asS (us.getD (2:Nat) undef)))≤(0:Int)) then q_2 else some (.val (.bool false))) else none) else none) else none) else q_2) else none) else none) else none) else none) else none) else none) else none) else none) else none) else none) else none)) else none))) else none)) else none)) else none)) else none)):=by kernel_rfl
end
end Go.Proofs.YtamcpiicmfielaaGreat.L
namespace Go.Proofs.YtamcpiicmfielaaGreat.L
open Go Go.V Go.RowKit Go.Proofs.YtamcpiicmfielaaGreat.Sp
open Go.Proofs (Tryz.prog)
noncomputable section
theorem CJl_ok:Meets Tryz.prog (CJl gg0 cg0 hg0 ag0 jg0 sq0):=(((((((((meets_none _).add eQCompare.gRR).add eChk).add eAt).add eJnO).add eAwakeS).add eQCheck).add eGreat).add eRChk).add eGT
theorem CJe_ok:Meets Tryz.prog (CJe gg0 cg0 hg0 jg0 sq0):=((((((((meets_none _).add eQCompare.gRR).add eNoJ).add eJnE).add eAwakeS).add eQCheck).add eGreat).add eRChk).add eGT
theorem pair_eqJ (p q:Rat):(sq0.qn p==sq0.qn p&&(strEq (sq0.qs p) (sq0.qs p)&&(strEq (sq0.qd p) (sq0.qd p)&&true))&&(sq0.qn q==sq0.qn q&&(strEq (sq0.qs q) (sq0.qs q)&&(strEq (sq0.qd q) (sq0.qd q)&&true))&&true))=true:=by
 simp only [beq_self_eq_true,strEq_self,Bool.and_self]
theorem atJ {n:Nat} {ts ps:List Value} {b:Bool} {s d:BA} (hk:koN n ts n ps=true) (hc:ckN n ts n ps=0) (ho:okm s d=true) (hx:sq0.ck b s d=0):
  ag0.ak n ts n ps s d=true∧ag0.ae n ts n ps b s d=0∧ag0.ax n ts n ps b s d=pl1 n ts (px ps) (sq0.qv b s d)∧ag0.ay n ts n ps b s d=pl1 n ts (py ps) (sq0.qv b s d):=by
 have he:atE n ts n ps b s d=0:=by
  unfold atE
  rw [if_pos ⟨hc,hx⟩]
 refine ⟨?_,he,if_pos he,if_pos he⟩
 show (koN n ts n ps&&okm _ _)=true
 rw [hk,ho];rfl
theorem peqP_out {ps qs:List Value} {i j:Nat} (h:peqP ps i qs j=true):px ps i=px qs j∧py ps i=py qs j:=by
 unfold peqP at h
 simp only [Bool.and_eq_true,beq_iff_eq,strEq_iff,and_true,decide_eq_true_eq] at h
 obtain ⟨⟨h1,h2,h3⟩,h4,h5,h6⟩:=h
 unfold px py qat
 rw [h1,h2,h3,h4,h5,h6]
 exact ⟨rfl,rfl⟩
theorem joined_true (n:Nat) (ts:List Value) (m:Nat) (ps:List Value) (l1:ts.length=n*3) (o1:okTs n ts=true) (l2:ps.length=m*6) (o2:okpN m ps=true) (n2:Nat) (us:List Value) (m2:Nat) (qs:List Value) (l3:us.length=n2*3) (o3:okTs n2 us=true) (l4:qs.length=m2*6) (o4:okpN m2 qs=true) (xb:Bool) (xn xd:BA):
  ∃ E:Env,Meets Tryz.prog E.C∧LoopsOk Tryz.prog E∧callA Tryz.prog E 10 10 4 [aTrj n ts m ps,aTrj n2 us m2 qs,w3 xb xn xd]=some (.val (.bool true)):=by
 have T:=joined_o gg0 cg0 hg0 ag0 jg0 sq0 n ts m ps n2 us m2 qs xb xn xd
 have T2:=joined_e gg0 cg0 hg0 jg0 sq0 n ts m ps n2 us m2 qs xb xn xd
 have S1:gg0.go n ts m ps=true:=by show (okTs n ts&&okpN m ps)=true;rw [o1,o2];rfl
 have S2:gg0.go n2 us m2 qs=true:=by show (okTs n2 us&&okpN m2 qs)=true;rw [o3,o4];rfl
 simp only [rowV_vrow l1,rowV_vrow l2,rowV_vrow l3,rowV_vrow l4,okV_vrow,S1,S2] at T T2
 by_cases hg:gtN n ts m ps=true
 ·rw [show gg0.gt n ts m ps=true from hg] at T;exact ⟨_,CJl_ok,loops_none,T⟩
 have hS:=small_of o1 o2 hg
 rw [show gg0.gt n ts m ps=false from Bool.eq_false_iff.2 hg,show cg0.ko n ts m ps=true from hS.ko] at T T2
 by_cases hc:ckN n ts m ps=0
 case neg=>rw [dF (show ¬ cg0.ck n ts m ps=0 from hc)] at T;exact ⟨_,CJl_ok,loops_none,T⟩
 rw [dT (show cg0.ck n ts m ps=0 from hc)] at T T2
 by_cases hg2:gtN n2 us m2 qs=true
 ·rw [show gg0.gt n2 us m2 qs=true from hg2] at T;exact ⟨_,CJl_ok,loops_none,T⟩
 have hS2:=small_of o3 o4 hg2
 rw [show gg0.gt n2 us m2 qs=false from Bool.eq_false_iff.2 hg2,show cg0.ko n2 us m2 qs=true from hS2.ko] at T T2
 by_cases hc2:ckN n2 us m2 qs=0
 case neg=>rw [dF (show ¬ cg0.ck n2 us m2 qs=0 from hc2)] at T;exact ⟨_,CJl_ok,loops_none,T⟩
 rw [dT (show cg0.ck n2 us m2 qs=0 from hc2)] at T T2
 by_cases hx1:hg0.gr xn xd=true
 ·rw [hx1] at T;exact ⟨_,CJl_ok,loops_none,T⟩
 have hx:=gr12 (Bool.eq_false_iff.2 hx1)
 rw [Bool.eq_false_iff.2 hx1,ok12_q hx] at T T2
 by_cases hx2:sq0.ck xb xn xd=0
 case neg=>rw [dF hx2] at T;exact ⟨_,CJl_ok,loops_none,T⟩
 rw [dT hx2] at T T2
 obtain ⟨rfl,hpos,hlim,_⟩:=ckN_ok hc
 obtain ⟨rfl,hpos2,hlim2,_⟩:=ckN_ok hc2
 have hA:=plOk_of hS.ko hc
 have hB:=plOk_of hS2.ko hc2
 have hn:=hS.lim
 have hm:=hS2.lim
 have e1:(n:Int) - 1=((n - 1:Nat):Int):=by omega
 have hjo:jg0.jo n ts n ps n2 us n2 qs=true:= @decide_eq_true _ (Classical.propDecidable _) ⟨rfl,rfl,by omega,by omega,hS.ko,hc,hS2.ko,hc2⟩
 obtain ⟨c1,c2⟩:=okX_out (hA.ts.ok (n - 1) (by omega))
 simp only [e1,Int.toNat_natCast,qt_eq] at T T2
 by_cases hj:jeN n ts ps us qs=0
 ·have hpe:peqP ps (n - 1) qs 0=true:=Classical.byContradiction fun h=>by
   unfold jeN at hj
   rw [if_neg h] at hj
   cases hj
  have ho:¬ qt us 0 < qt ts (n - 1):=fun h=>by
   unfold jeN at hj
   rw [if_pos hpe,if_pos h] at hj
   cases hj
  obtain ⟨hpx,hpy⟩:=peqP_out hpe
  have hJ:=jt_of l1 l2 hS.ko hc hS2.ko hc2 (by omega) hpx hpy ho
  have hd:=hJ.d1
  obtain ⟨j1,j2⟩:=hJ.ok hc hc2
  have g1:=jnR_len (sz:=3) (d:=dJ n ts us) l1 l3
  have g2:=jnR_len (sz:=6) (d:=dJ n ts us) l2 l4
  rw [show n+(n2 - dJ n ts us)=n+n2 - dJ n ts us by omega] at g1 g2
  have a1:=atJ hS.ko hc (okm_12 hx) hx2
  have a2:=atJ hS2.ko hc2 (okm_12 hx) hx2
  have a3:=atJ j1 j2 (okm_12 hx) hx2
  simp only [show jg0.jd n ts us=dJ n ts us from rfl,rowV_vrow g1,rowV_vrow g2,okV_vrow,a1.1,a2.1,a3.1,a1.2.2.1,a1.2.2.2,a2.2.2.1,a2.2.2.2,a3.2.2.1,a3.2.2.2] at T
  rw [hjo,dT (show jg0.je n ts ps us qs=0 from hj),i64T (z:=((n - 1:Nat):Int)) (by omega),dT a1.2.1,dT a2.2.1,dT a3.2.1,show cg0.ko _ (jnR 3 (dJ n ts us) ts us) _ (jnR 6 (dJ n ts us) ps qs)=true from j1,dT (show cg0.ck _ (jnR 3 (dJ n ts us) ts us) _ (jnR 6 (dJ n ts us) ps qs)=0 from j2),
   dT (show (0:Int)≤((n - 1:Nat):Int) by omega),dT (show ((n - 1:Nat):Int) < (n:Int) by omega),c1,okm_q c2] at T
  by_cases hlt:qt ts (n - 1) < sq0.qv xb xn xd
  ·obtain ⟨k1,k2⟩:=hJ.hi hlt
   rw [dF (fun h=>by have:=cq_gt2.2 hlt;omega),k1,k2] at T
   simp only [pair_eqJ] at T
   exact ⟨_,CJl_ok,loops_none,T⟩
  ·obtain ⟨k1,k2⟩:=hJ.lo hlt
   rw [dT (show sq0.cq (sq0.qv xb xn xd) (qt ts (n - 1))≤0 from Classical.byContradiction fun h=>hlt (cq_gt2.1 (by omega))),k1,k2] at T
   simp only [pair_eqJ] at T
   exact ⟨_,CJl_ok,loops_none,T⟩
 ·obtain ⟨⟨a1,a2⟩,_,_⟩:=okQ_out (hA.pts (n - 1) (by omega))
  obtain ⟨⟨b1,b2⟩,_,_⟩:=okQ_out (hB.pts 0 (by omega))
  obtain ⟨d1,d2⟩:=okX_out (hB.ts.ok 0 (by omega))
  simp only [Nat.zero_mul,Nat.zero_add] at b1 b2 d1 d2
  obtain ⟨x1,x2,x3⟩:=isB_of a1
  obtain ⟨x4,x5,x6⟩:=isB_of a2
  obtain ⟨y1,y2,y3⟩:=isB_of b1
  obtain ⟨y4,y5,y6⟩:=isB_of b2
  have q1:sq0.qv (asB (us.getD 0 undef)) (asS (us.getD 1 undef)) (asS (us.getD 2 undef))=qt us 0:=rfl
  rw [hjo,dF (show ¬ jg0.je n ts ps us qs=0 from hj),i64T (z:=((n - 1:Nat):Int)) (by omega),dT (show (0:Int)≤((n - 1:Nat):Int) by omega),dT (show ((n - 1:Nat):Int) < (n:Int) by omega),dT (show (0:Int) < (n2:Int) by omega),
   x1,x2,x3,x4,x5,x6,y1,y2,y3,y4,y5,y6,c1,okm_q c2,d1,okm_q d2,q1] at T2
  by_cases hpe:peqP ps (n - 1) qs 0=true
  ·have hj2:jeN n ts ps us qs= @ite Int (qt us 0 < qt ts (n - 1)) (Classical.propDecidable _) 8 0:=if_pos hpe
   by_cases h8:qt us 0 < qt ts (n - 1)
   ·rw [if_pos h8] at hj2
    unfold peqP at hpe
    simp only [Nat.zero_mul,Nat.zero_add] at hpe
    rw [show jg0.je n ts ps us qs=8 from hj2,hpe,dF (fun h=>by have:=cq_gt2.2 h8;omega)] at T2
    exact ⟨_,CJe_ok,loops_none,T2⟩
   ·rw [if_neg h8] at hj2
    exact absurd hj2 hj
  ·have hj2:jeN n ts ps us qs=9:=if_neg hpe
   rw [Bool.not_eq_true] at hpe
   unfold peqP at hpe
   simp only [Nat.zero_mul,Nat.zero_add] at hpe
   rw [show jg0.je n ts ps us qs=9 from hj2,hpe] at T2
   exact ⟨_,CJe_ok,loops_none,T2⟩
theorem joined_walk (n:Nat) (ts:List Value) (m:Nat) (ps:List Value) (l1:ts.length=n*3) (o1:okTs n ts=true) (l2:ps.length=m*6) (o2:okpN m ps=true) (n2:Nat) (us:List Value) (m2:Nat) (qs:List Value) (l3:us.length=n2*3) (o3:okTs n2 us=true) (l4:qs.length=m2*6) (o4:okpN m2 qs=true) (xb:Bool) (xn xd:BA) (W:World) (v:Value) (hv:(aTrj n ts m ps).Rel Tryz.prog NoA (fun _=>False) W NoD v) (u:Value) (hu:(aTrj n2 us m2 qs).Rel Tryz.prog NoA (fun _=>False) W NoD u):Calls Tryz.prog 4 #[v,u, .agg #[.bool xb, .string xn, .string xd]] W fun e w'=>e= .returned (.bool true)∧Below W.heap.size W w':=by
 obtain ⟨E,hC,hL,h⟩:=joined_true n ts m ps l1 o1 l2 o2 n2 us m2 qs l3 o3 l4 o4 xb xn xd
 exact law_walk hC hL (by kernel_rfl) h W ⟨_,_,rfl,hv,_,_,rfl,hu,_,_,rfl,arg_rat _ _ xb xn xd,rfl⟩
end
end Go.Proofs.YtamcpiicmfielaaGreat.L
