import Derived.Test.YtamcpiicmfielaaGreatZHW
set_option linter.unusedVariables false
set_option linter.unusedSimpArgs false
namespace Go.Proofs.YtamcpiicmfielaaGreat.L
open Go Go.V Go.RowKit Go.Proofs.YtamcpiicmfielaaGreat.Sp
open Go.Proofs (Tryz.prog)
noncomputable section
def qV (C:Cg) (G:Qg):FuncId→TF:=aw 18 (mz C) (aw 23 (cZ (qK G)) aK)
theorem Zu (C:Cg) (Z:Qg) (p:Nat) (ts ps:List Value) (r:Nat) (us qs:List Value):letI I:=(r+1 - 1);letI G:=(↑(p+1):Int);letI M:=(ag 6 (p+1) (ad 6 ps));letI U:=(ag 3 (p+1) (ad 3 ts));letI J:=(0+(p+1));letI a7:=(ao.vals (List.take ((p+1)*6) M ++ ag 6 I fun j q=>ad 6 qs (j+Int.toNat (1:Int)) q));letI bx:=(ao.vals (List.take ((p+1)*3) U ++ ag 3 I fun j q=>ad 3 us (j+Int.toNat (1:Int)) q));letI bD:=(ao.vals (List.take (J*3) U ++ ag 3 I fun j q=>ad 3 us (j+Int.toNat (1:Int)) q));letI b0:=(ao.vals (List.take (J*6) M ++ ag 6 I fun j q=>ad 6 qs (j+Int.toNat (1:Int)) q));letI O:=(0+(p+1)+I);letI a1:=(ao.vals (ag 6 I fun j q=>ad 6 qs (j+Int.toNat (1:Int)) q));letI b7:=(aG (ah (ps.getD ((G - 1).toNat*6+1) undef)) (ah (qs.getD 1 undef))&&(aG (ah (ps.getD ((G - 1).toNat*6+2) undef)) (ah (qs.getD 2 undef))&&true));letI ch:=(aG (ah (ps.getD ((G - 1).toNat*6+4) undef)) (ah (qs.getD 4 undef))&&(aG (ah (ps.getD ((G - 1).toNat*6+5) undef)) (ah (qs.getD 5 undef))&&true));letI b3:=(ts.getD ((G - 1).toNat*3+1) undef);letI b4:=(ts.getD ((G - 1).toNat*3+2) undef);letI ct:=(Z.qv (az (ts.getD ((G - 1).toNat*3+0) undef)) (ah b3) (ah b4));letI ab:=(0+(p+1)+(r+1));letI aE:=(0+G+(↑I:Int) - 0);letI a6:=(0+G+(↑(r+1):Int) - 0);letI b1:=(ps.getD ((G - 1).toNat*6+0) undef);letI b2:=(ps.getD ((G - 1).toNat*6+3) undef);letI c0:=(Z.qv (az (us.getD 0 undef)) (ah (us.getD 1 undef)) (ah (us.getD 2 undef)));letI b5:=(ag 3 (r+1) (ad 3 us));letI b6:=(ag 6 (r+1) (ad 6 qs));letI c3:=(ao.vals (List.take (J*3) U ++ ag 3 (r+1) (ad 3 us)));letI c4:=(ao.vals (List.take (J*6) M ++ ag 6 (r+1) (ad 6 qs)));letI c5:=(ao.vals (ag 3 I fun j q=>ad 3 us (j+Int.toNat (1:Int)) q));
  (aF Tryz.prog ⟨qV C Z,au,aq⟩ 10 10 22 [aW (p+1) ts (p+1) ps,aW (r+1) us (r+1) qs]=(bif an 3 (p+1) (ad 3 ts)&&an 6 (p+1) (ad 6 ps)&&C.ko (p+1) U (p+1) M then (bif !decide (C.ck (p+1) U (p+1) M=0) then some (.tup [(.agg [(.val (.slice .none 0 0)),(.val (.slice .none 0 0))]),(.val (.int .i64 1))]) else (bif an 3 (r+1) (ad 3 us)&&an 6 (r+1) (ad 6 qs)&&C.ko (r+1) b5 (r+1) b6 then (bif !decide (C.ck (r+1) b5 (r+1) b6=0) then some (.tup [(.agg [(.val (.slice .none 0 0)),(.val (.slice .none 0 0))]),(.val (.int .i64 1))]) else (bif ai IntKind.i64 (G - 1) then (bif decide (0≤G - 1)&&decide (G - 1 < G) then (bif b8 b1&&b8 (qs.getD 0 undef) then (bif bb (ps.getD ((G - 1).toNat*6+1) undef)&&bb (qs.getD 1 undef) then (bif bb (ps.getD ((G - 1).toNat*6+2) undef)&&bb (qs.getD 2 undef) then (bif b8 b2&&b8 (qs.getD 3 undef) then (bif bb (ps.getD ((G - 1).toNat*6+4) undef)&&bb (qs.getD 4 undef) then (bif bb (ps.getD ((G - 1).toNat*6+5) undef)&&bb (qs.getD 5 undef) then (bif bif true then !(az b1==az (qs.getD 0 undef)&&b7&&(az b2==az (qs.getD 3 undef)&&ch&&true)) else az b1==az (qs.getD 0 undef)&&b7&&(az b2==az (qs.getD 3 undef)&&ch&&true) then some (.tup [(.agg [(.val (.slice .none 0 0)),(.val (.slice .none 0 0))]),(.val (.int .i64 9))]) else (bif decide (0≤G - 1)&&decide (G - 1 < G) then (bif aY (us.getD 0 undef) (us.getD 1 undef) (us.getD 2 undef)&&aY (ts.getD ((G - 1).toNat*3+0) undef) b3 b4&&(Z.ok (ah (us.getD 1 undef)) (ah (us.getD 2 undef))&&Z.ok (ah b3) (ah b4)) then (bif decide (Z.cq c0 ct < 0) then some (.tup [(.agg [(.val (.slice .none 0 0)),(.val (.slice .none 0 0))]),(.val (.int .i64 8))]) else (bif decide (Z.cq c0 ct=0) then (bif ai IntKind.i64 (G+(↑I:Int)) then (bif decide (1000 < G+(↑I:Int)) then some (.tup [(.agg [(.val (.slice .none 0 0)),(.val (.slice .none 0 0))]),(.val (.int .i64 4))]) else (bif ai IntKind.i64 (0+G) then (bif ai IntKind.i64 (0+G+(↑I:Int)) then (bif ai IntKind.i64 aE then (bif decide ((0:Int) < (0:Int)+G+(↑I:Int) - 0) then (bif decide ((0:Int) < (0:Int)+G+(↑I:Int) - 0)&&aU Tryz.prog aE.toNat 27&&true&&true then (bif an 3 (p+1) (ad 3 ts) then (bif aU Tryz.prog J 27&&(ao.vals U).bk then (bif an 3 I fun j q=>ad 3 us (j+Int.toNat (1:Int)) q then (bif decide (J*3≤(ao.vals U).len)&&aU Tryz.prog O 27&&c5.bk then (bif ai IntKind.i64 (0+G) then (bif ai IntKind.i64 (0+G+(↑I:Int)) then (bif ai IntKind.i64 aE then (bif decide ((0:Int) < (0:Int)+G+(↑I:Int) - 0) then (bif decide ((0:Int) < (0:Int)+G+(↑I:Int) - 0)&&aU Tryz.prog aE.toNat 35&&true&&true then (bif an 6 (p+1) (ad 6 ps) then (bif aU Tryz.prog J 35&&(ao.vals M).bk then (bif an 6 I fun j q=>ad 6 qs (j+Int.toNat (1:Int)) q then (bif decide (J*6≤(ao.vals M).len)&&aU Tryz.prog O 35&&a1.bk then (bif decide (0+O*3≤bD.len) then (bif decide (0+O*6≤b0.len) then some (.tup [(.agg [(.lst false 27 O (cC bD [] 0 3)),(.lst false 35 O (cC b0 [] 0 6))]),(.val (.int .i64 0))]) else none) else none) else none) else none) else none) else none) else none) else (bif an 6 (p+1) (ad 6 ps) then (bif aU Tryz.prog (p+1) 35 then (bif an 6 I fun j q=>ad 6 qs (j+Int.toNat (1:Int)) q then (bif decide ((p+1)*6≤(ao.vals M).len)&&aU Tryz.prog (p+1+I) 35&&a1.bk then (bif decide (0+O*3≤bD.len) then (bif decide (0+(p+1+I)*6≤a7.len) then some (.tup [(.agg [(.lst false 27 O (cC bD [] 0 3)),(.lst false 35 (p+1+I) (cC a7 [] 0 6))]),(.val (.int .i64 0))]) else none) else none) else none) else none) else none) else none)) else none) else none) else none) else none) else none) else none) else none) else none) else (bif an 3 (p+1) (ad 3 ts) then (bif aU Tryz.prog (p+1) 27 then (bif an 3 I fun j q=>ad 3 us (j+Int.toNat (1:Int)) q then (bif decide ((p+1)*3≤(ao.vals U).len)&&aU Tryz.prog (p+1+I) 27&&c5.bk then (bif ai IntKind.i64 (0+G) then (bif ai IntKind.i64 (0+G+(↑I:Int)) then (bif ai IntKind.i64 aE then (bif decide ((0:Int) < (0:Int)+G+(↑I:Int) - 0) then (bif decide ((0:Int) < (0:Int)+G+(↑I:Int) - 0)&&aU Tryz.prog aE.toNat 35&&true&&true then (bif an 6 (p+1) (ad 6 ps) then (bif aU Tryz.prog J 35&&(ao.vals M).bk then (bif an 6 I fun j q=>ad 6 qs (j+Int.toNat (1:Int)) q then (bif decide (J*6≤(ao.vals M).len)&&aU Tryz.prog O 35&&a1.bk then (bif decide (0+(p+1+I)*3≤bx.len) then (bif decide (0+O*6≤b0.len) then some (.tup [(.agg [(.lst false 27 (p+1+I) (cC bx [] 0 3)),(.lst false 35 O (cC b0 [] 0 6))]),(.val (.int .i64 0))]) else none) else none) else none) else none) else none) else none) else none) else (bif an 6 (p+1) (ad 6 ps) then (bif aU Tryz.prog (p+1) 35 then (bif an 6 I fun j q=>ad 6 qs (j+Int.toNat (1:Int)) q then (bif decide ((p+1)*6≤(ao.vals M).len)&&aU Tryz.prog (p+1+I) 35&&a1.bk then (bif decide (0+(p+1+I)*3≤bx.len) then (bif decide (0+(p+1+I)*6≤a7.len) then some (.tup [(.agg [(.lst false 27 (p+1+I) (cC bx [] 0 3)),(.lst false 35 (p+1+I) (cC a7 [] 0 6))]),(.val (.int .i64 0))]) else none) else none) else none) else none) else none) else none)) else none) else none) else none) else none) else none) else none) else none)) else none) else none) else none)) else none) else (bif ai IntKind.i64 (G+(↑(r+1):Int)) then (bif decide (1000 < G+(↑(r+1):Int)) then some (.tup [(.agg [(.val (.slice .none 0 0)),(.val (.slice .none 0 0))]),(.val (.int .i64 4))]) else (bif ai IntKind.i64 (0+G) then (bif ai IntKind.i64 (0+G+(↑(r+1):Int)) then (bif ai IntKind.i64 a6 then (bif aU Tryz.prog a6.toNat 27&&true&&true then (bif an 3 (p+1) (ad 3 ts) then (bif aU Tryz.prog J 27&&(ao.vals U).bk then (bif an 3 (r+1) (ad 3 us) then (bif decide (J*3≤(ao.vals U).len)&&aU Tryz.prog ab 27&&(ao.vals b5).bk then (bif ai IntKind.i64 (0+G) then (bif ai IntKind.i64 (0+G+(↑(r+1):Int)) then (bif ai IntKind.i64 a6 then (bif aU Tryz.prog a6.toNat 35&&true&&true then (bif an 6 (p+1) (ad 6 ps) then (bif aU Tryz.prog J 35&&(ao.vals M).bk then (bif an 6 (r+1) (ad 6 qs) then (bif decide (J*6≤(ao.vals M).len)&&aU Tryz.prog ab 35&&(ao.vals b6).bk then (bif decide (0+ab*3≤c3.len) then (bif decide (0+ab*6≤c4.len) then some (.tup [(.agg [(.lst false 27 ab (cC c3 [] 0 3)),(.lst false 35 ab (cC c4 [] 0 6))]),(.val (.int .i64 0))]) else none) else none) else none) else none) else none) else none) else none) else none) else none) else none) else none) else none) else none) else none) else none) else none) else none) else none)) else none))) else none) else none)) else none) else none) else none) else none) else none) else none) else none) else none)) else none)) else none)):=by kernel_rfl
end
end Go.Proofs.YtamcpiicmfielaaGreat.L
namespace Go.Proofs.YtamcpiicmfielaaGreat.L
open Go Go.V Go.RowKit Go.Proofs.YtamcpiicmfielaaGreat.Sp
open Go.Proofs (Tryz.prog)
noncomputable section
structure Jn (n:Nat) (ts:List Value) (m:Nat) (us vs:List Value) (d:Nat):Prop where
 ha:pd n ts
 hb:pd m us
 n0:0 < n
 m0:0 < m
 d1:d≤1
 q1:∀ j,j < n→qt vs j=qt ts j
 q2:∀ j,j+d < m→qt vs (n+j)=qt us (j+d)
 e1:d=1→qt us 0=qt ts (n - 1)
 e0:d=0→qt ts (n - 1) < qt us 0
section
variable {n : Nat} {ts : List Value} {m : Nat} {us vs : List Value} {d : Nat} {ca cb cc : Nat → Rat} {x : Rat}
theorem MG (h:Jn n ts m us vs d) (J:∀ j,j < n→cc j=ca j) (ab:¬ qt ts (n - 1) < x):fi (n+m - d) vs cc x=fi n ts ca x:=by
 have n0:=h.n0
 have m0:=h.m0
 have d1:=h.d1
 obtain ⟨aE,M,O⟩:=z8 ts x n
 have I:cg ts x n < n:=by
  refine Classical.byContradiction fun a1=>ab (M (n - 1) (by omega))
 have U:cg vs x (n+m - d)=cg ts x n:=(FQ (by omega) (fun k Z=>by rw [h.q1 k (by omega)];exact M k Z) (fun _=>by rw [h.q1 _ I];exact O I)).symm
 unfold fi
 rw [U]
 by_cases G:cg ts x n=0
 ·rw [if_pos G,if_pos G,J 0 n0]
 ·rw [if_neg G,if_neg G,if_neg (show ¬ cg ts x n=n+m - d by omega),if_neg (show ¬ cg ts x n=n by omega),J _ I,J (cg ts x n - 1) (by omega),h.q1 _ I,h.q1 (cg ts x n - 1) (by omega)]
theorem MI {a:Nat} (h:Jn n ts m us vs d) (ha:a+d=n) (q:∀ i,i < m→qt vs (a+i)=qt us i) (c:∀ i,i < m→cc (a+i)=cb i) (U:∀ k,k < a→qt vs k < x) (aE:0 < cg us x m):fi (n+m - d) vs cc x=fi m us cb x:=by
 have n0:=h.n0
 have m0:=h.m0
 have d1:=h.d1
 obtain ⟨Z,I,J⟩:=z8 us x m
 have M:cg vs x (n+m - d)=a+cg us x m:=(FQ (by omega) (fun k ab=>by
  by_cases O:k < a
  ·exact U k O
  ·rw [show k=a+(k - a) by omega,q (k - a) (by omega)]
   exact I _ (by omega)) (fun _=>by rw [q _ (by omega)];exact J (by omega))).symm
 unfold fi
 rw [M,if_neg (show ¬ a+cg us x m=0 by omega),if_neg (show ¬ cg us x m=0 by omega)]
 by_cases G:cg us x m=m
 ·rw [if_pos G,if_pos (show a+cg us x m=n+m - d by omega),show n+m - d - 1=a+(m - 1) by omega,c _ (by omega)]
 ·rw [if_neg G,if_neg (show ¬ a+cg us x m=n+m - d by omega),show a+cg us x m - 1=a+(cg us x m - 1) by omega,c _ (by omega),c _ (by omega),q _ (by omega),q _ (by omega)]
theorem MF (h:Jn n ts m us vs d) (U:∀ j,j < n→cc j=ca j) (M:∀ j,j+d < m→cc (n+j)=cb (j+d)) (Z:ca (n - 1)=cb 0) (a6:qt ts (n - 1) < x):fi (n+m - d) vs cc x=fi m us cb x:=by
 have n0:=h.n0
 have m0:=h.m0
 have d1:=h.d1
 obtain ⟨a7,bx,J⟩:=z8 us x m
 have O:∀ k,k < n→qt ts k < x:=fun k I=>by
  have:=h.ha.le (show k≤n - 1 by omega) (by omega)
  grind
 by_cases aE:d=1
 ·subst aE
  have e1:=h.e1 rfl
  refine MI (a:=n - 1) h (by omega) (fun i hi=> ?_) (fun i hi=> ?_) (fun k I=>by rw [h.q1 k (by omega)];exact O k (by omega)) ?_
  ·by_cases G:i=0
   ·subst G
    rw [Nat.add_zero,h.q1 _ (by omega),e1]
   ·rw [show n - 1+i=n+(i - 1) by omega,h.q2 _ (by omega),show i - 1+1=i by omega]
  ·by_cases G:i=0
   ·subst G
    rw [Nat.add_zero,U _ (by omega),Z]
   ·rw [show n - 1+i=n+(i - 1) by omega,M _ (by omega),show i - 1+1=i by omega]
  ·refine Nat.pos_of_ne_zero fun G=> ?_
   rw [G] at J
   have:=J m0
   rw [e1] at this
   exact this a6
 ·obtain rfl:d=0:=by omega
  by_cases G:cg us x m=0
  ·have a1:cg vs x (n+m - 0)=n:=(FQ (by omega) (fun k I=>by rw [h.q1 k I];exact O k I) (fun _=>by
    have:=h.q2 0 (by omega)
    rw [Nat.add_zero] at this
    rw [this]
    rw [G] at J
    exact J m0)).symm
   unfold fi
   have ab:=M 0 (by omega)
   rw [Nat.add_zero] at ab
   rw [a1,G,if_neg (show ¬ n=0 by omega),if_neg (show ¬ n=n+m - 0 by omega),if_pos rfl,U _ (by omega),ab,Z]
   unfold KA
   grind
  ·exact MI (a:=n) h (by omega) (fun i hi=>h.q2 i (by omega)) (fun i hi=>M i (by omega)) (fun k I=>by rw [h.q1 k I];exact O k I) (by omega)
theorem Zs (h:Jn n ts m us vs d) (j:Nat) (M:j+1 < n+m - d):qt vs j < qt vs (j+1):=by
 have n0:=h.n0
 have m0:=h.m0
 have d1:=h.d1
 by_cases G:j+1 < n
 ·rw [h.q1 j (by omega),h.q1 _ G]
  exact h.ha.up j G
 ·by_cases J:j < n
  ·obtain rfl:j=n - 1:=by omega
   rw [h.q1 (n - 1) (by omega),show n - 1+1=n+0 by omega,h.q2 0 (by omega)]
   by_cases I:d=1
   ·subst I
    rw [← h.e1 rfl]
    exact h.hb.up 0 (by omega)
   ·obtain rfl:d=0:=by omega
    exact h.e0 rfl
  ·rw [show j=n+(j - n) by omega,h.q2 _ (by omega),show n+(j - n)+1=n+(j - n+1) by omega,h.q2 _ (by omega),show j - n+1+d=j - n+d+1 by omega]
   exact h.hb.up _ (by omega)
end
end
end Go.Proofs.YtamcpiicmfielaaGreat.L
namespace Go.Proofs.YtamcpiicmfielaaGreat.L
open Go Go.V Go.RowKit Go.Proofs.YtamcpiicmfielaaGreat.Sp
open Go.Proofs (Tryz.prog)
noncomputable section
def bA (sz d:Nat) (ts us:List Value):List Value:=ts ++ us.drop (d*sz)
section
variable {sz n m d j q : Nat} {ts us vs ps : List Value}
theorem oz (G:ts.length=n*sz) (I:us.length=m*sz):(bA sz d ts us).length=(n+(m - d))*sz:=by
 unfold bA
 rw [List.length_append,List.length_drop,G,I,← Nat.sub_mul,← Nat.add_mul]
theorem mU (J:ts.length=n*sz) (I:j < n) (M:q < sz):(bA sz d ts us).getD (j*sz+q) undef=ts.getD (j*sz+q) undef:=by
 have G:=Nat.mul_le_mul_right sz (show j+1≤n from I)
 rw [Nat.add_mul,Nat.one_mul] at G
 unfold bA
 rw [List.getD_eq_getElem?_getD,List.getElem?_append_left (by omega),← List.getD_eq_getElem?_getD]
theorem pP (I:ts.length=n*sz):(bA sz d ts us).getD ((n+j)*sz+q) undef=us.getD ((j+d)*sz+q) undef:=by
 have e1:(n+j)*sz+q=n*sz+(j*sz+q):=by rw [Nat.add_mul,Nat.add_assoc]
 have G:(j+d)*sz+q=d*sz+(j*sz+q):=by rw [Nat.add_mul];omega
 unfold bA
 rw [List.getD_eq_getElem?_getD,List.getElem?_append_right (by omega),I,e1,Nat.add_sub_cancel_left,List.getElem?_drop,← G,← List.getD_eq_getElem?_getD]
theorem sC {i:Nat} (h:∀ q,q < 3→vs.getD (j*3+q) undef=us.getD (i*3+q) undef):qt vs j=qt us i∧c8 vs j=c8 us i∧jF vs j=jF us i:=by
 have G:=h 0 (by decide)
 have I:=h 1 (by decide)
 have J:=h 2 (by decide)
 unfold qt c8 jF dB
 rw [G,I,J]
 exact ⟨rfl,rfl,rfl⟩
theorem mr {i:Nat} (h:∀ q,q < 6→vs.getD (j*6+q) undef=us.getD (i*6+q) undef):px vs j=px us i∧py vs j=py us i∧dd vs j=dd us i∧mV vs j=mV us i:=by
 have G:=h 0 (by decide)
 have I:=h 1 (by decide)
 have J:=h 2 (by decide)
 have M:=h 3 (by decide)
 have O:=h 4 (by decide)
 have U:=h 5 (by decide)
 unfold px py dd mV di wa
 rw [G,I,J,M,O,U]
 exact ⟨rfl,rfl,rfl,rfl⟩
end
section
variable {n m d : Nat} {ts us ps qs : List Value}
structure Jt (n:Nat) (ts ps:List Value) (m:Nat) (us qs:List Value) (d:Nat):Prop where
 pa:tt n ts n ps
 pb:tt m us m qs
 l1:ts.length=n*3
 l2:ps.length=n*6
 d1:d≤1
 lim:n+m≤1000
 e1:d=1→qt us 0=qt ts (n - 1)
 e0:d=0→qt ts (n - 1) < qt us 0
 ex:px ps (n - 1)=px qs 0
 ey:py ps (n - 1)=py qs 0
theorem Jt.jn (h:Jt n ts ps m us qs d):Jn n ts m us (bA 3 d ts us) d where
 ha:=h.pa.ts
 hb:=h.pb.ts
 n0:=h.pa.pos
 m0:=h.pb.pos
 d1:=h.d1
 q1 j G:=(sC fun q I=>mU h.l1 G I).1
 q2 j G:=(sC fun q I=>pP h.l1).1
 e1:=h.e1
 e0:=h.e0
theorem Jt.pl (h:Jt n ts ps m us qs d):tt (n+m - d) (bA 3 d ts us) (n+m - d) (bA 6 d ps qs) where
 eq:=rfl
 pos:=by have:=h.pa.pos;have:=h.pb.pos;have:=h.d1;omega
 ts:= {
  lim:=by have:=h.lim;omega
  ok:=fun j M=>by
   have J:=h.d1
   by_cases G:j < n
   ·rw [(sC fun q I=>mU (d:=d) (us:=us) h.l1 G I).2.1]
    exact h.pa.ts.ok j G
   ·obtain ⟨k,rfl⟩:∃ k,j=n+k:= ⟨j - n,by omega⟩
    rw [(sC fun q I=>pP (j:=k) (d:=d) (us:=us) (q:=q) h.l1).2.1]
    exact h.pb.ts.ok _ (by omega)
  up:=Zs h.jn }
 kC:=fun j M=>by
  have J:=h.d1
  by_cases G:j < n
  ·rw [(mr fun q I=>mU (d:=d) (us:=qs) h.l2 G I).2.2.1]
   exact h.pa.kC j G
  ·obtain ⟨k,rfl⟩:∃ k,j=n+k:= ⟨j - n,by omega⟩
   rw [(mr fun q I=>pP (j:=k) (d:=d) (us:=qs) (q:=q) h.l2).2.2.1]
   exact h.pb.kC _ (by omega)
 can:=fun j M=>by
  have J:=h.d1
  by_cases G:j < n
  ·rw [(mr fun q I=>mU (d:=d) (us:=qs) h.l2 G I).2.2.2]
   exact h.pa.can j G
  ·obtain ⟨k,rfl⟩:∃ k,j=n+k:= ⟨j - n,by omega⟩
   rw [(mr fun q I=>pP (j:=k) (d:=d) (us:=qs) (q:=q) h.l2).2.2.2]
   exact h.pb.can _ (by omega)
theorem Jt.lo (h:Jt n ts ps m us qs d) {x:Rat} (J:¬ qt ts (n - 1) < x):fi (n+m - d) (bA 3 d ts us) (px (bA 6 d ps qs)) x=fi n ts (px ps) x∧fi (n+m - d) (bA 3 d ts us) (py (bA 6 d ps qs)) x=fi n ts (py ps) x:=
 ⟨MG h.jn (fun j G=>(mr fun q I=>mU h.l2 G I).1) J,MG h.jn (fun j G=>(mr fun q I=>mU h.l2 G I).2.1) J⟩
theorem Jt.hi (h:Jt n ts ps m us qs d) {x:Rat} (J:qt ts (n - 1) < x):fi (n+m - d) (bA 3 d ts us) (px (bA 6 d ps qs)) x=fi m us (px qs) x∧fi (n+m - d) (bA 3 d ts us) (py (bA 6 d ps qs)) x=fi m us (py qs) x:=
 ⟨MF (ca:=px ps) h.jn (fun j G=>(mr fun q I=>mU h.l2 G I).1) (fun j G=>(mr fun q I=>pP h.l2).1) h.ex J,MF (ca:=py ps) h.jn (fun j G=>(mr fun q I=>mU h.l2 G I).2.1) (fun j G=>(mr fun q I=>pP h.l2).2.1) h.ey J⟩
theorem KC {ts ps:List Value} {j:Nat} (h:bJ ts ps j=0):jF ts j=false:=by
 have G:=(rj h).1
 unfold jF
 rw [decide_eq_true (show af.ck (az (ts.getD (j*3+0) undef)) (ah (ts.getD (j*3+1) undef)) (ah (ts.getD (j*3+2) undef))=0 from G)];rfl
theorem Jt.ok (h:Jt n ts ps m us qs d) (ha:aS n ts n ps=0) (hb:aS m us m qs=0):bj (n+m - d) (bA 3 d ts us) (n+m - d) (bA 6 d ps qs)=true∧aS (n+m - d) (bA 3 d ts us) (n+m - d) (bA 6 d ps qs)=0:=by
 have G:=h.pl
 have aE:=h.d1
 have a1:=G.ts.lim
 have a6:=G.pos
 constructor
 ·unfold bj
  rw [Bool.and_eq_true,List.all_eq_true,List.all_eq_true]
  exact ⟨fun j I=>G.ts.ok j (List.mem_range.1 I),fun j I=>G.kC j (List.mem_range.1 I)⟩
 ·unfold aS
  rw [if_neg (fun h=>h rfl),if_neg (show ¬ n+m - d=0 by omega),if_neg (show ¬ 1000 < n+m - d by omega)]
  refine xL fun j I=> ?_
  unfold bJ
  have Z:jF (bA 3 d ts us) j=false:=by
   by_cases J:j < n
   ·rw [(sC fun q O=>mU (d:=d) (us:=us) h.l1 J O).2.2]
    exact KC ((db ha).2.2.2 j J)
   ·obtain ⟨k,rfl⟩:∃ k,j=n+k:= ⟨j - n,by omega⟩
    rw [(sC fun q O=>pP (j:=k) (d:=d) (us:=us) (q:=q) h.l1).2.2]
    exact KC ((db hb).2.2.2 (k+d) (by omega))
  have J:¬ (jF (bA 3 d ts us) j=true∨po (bA 6 d ps qs) j=true):=by
   unfold po
   rw [Z,G.can j I]
   exact fun h=>h.elim (fun h=>by cases h) (fun h=>by cases h)
  have U:¬ (0 < j∧0≤af.cq (qt (bA 3 d ts us) (j - 1)) (qt (bA 3 d ts us) j)):=fun ⟨ab,M⟩=>by
   rw [C2] at M
   have:=G.ts.up (j - 1) (by omega)
   rw [show j - 1+1=j by omega] at this
   exact M this
  rw [if_neg J,if_neg U]
def dJ (n:Nat) (ts us:List Value):Nat:= @ite Nat (qt us 0=qt ts (n - 1)) (Classical.propDecidable _) 1 0
theorem Zw (l1:ts.length=n*3) (l2:ps.length=n*6) (J:bj n ts n ps=true) (ca:aS n ts n ps=0) (M:bj m us m qs=true) (cb:aS m us m qs=0) (lim:n+m≤1000) (G:px ps (n - 1)=px qs 0) (I:py ps (n - 1)=py qs 0) (O:¬ qt us 0 < qt ts (n - 1)):Jt n ts ps m us qs (dJ n ts us):=by
 refine ⟨lC J ca,lC M cb,l1,l2, ?_,lim, ?_, ?_,G,I⟩
 ·unfold dJ;split <;> omega
 ·intro h
  unfold dJ at h
  split at h
  ·assumption
  ·cases h
 ·intro h
  unfold dJ at h
  split at h
  ·cases h
  ·grind
end
end
end Go.Proofs.YtamcpiicmfielaaGreat.L
namespace Go.Proofs.YtamcpiicmfielaaGreat.L
open Go Go.V Go.RowKit Go.Proofs.YtamcpiicmfielaaGreat.Sp
open Go.Proofs (Tryz.prog)
noncomputable section
def mb (ps:List Value) (i:Nat) (qs:List Value) (j:Nat):Bool:=az (ps.getD (i*6+0) undef)==az (qs.getD (j*6+0) undef)&&(aG (ah (ps.getD (i*6+1) undef)) (ah (qs.getD (j*6+1) undef))&&(aG (ah (ps.getD (i*6+2) undef)) (ah (qs.getD (j*6+2) undef))&&true))&&(az (ps.getD (i*6+3) undef)==az (qs.getD (j*6+3) undef)&&(aG (ah (ps.getD (i*6+4) undef)) (ah (qs.getD (j*6+4) undef))&&(aG (ah (ps.getD (i*6+5) undef)) (ah (qs.getD (j*6+5) undef))&&true))&&true)
structure Jg where
 jo:Nat→List Value→Nat→List Value→Nat→List Value→Nat→List Value→Bool
 je:Nat→List Value→List Value→List Value→List Value→Int
 jd:Nat→List Value→List Value→Nat
def rL (n:Nat) (ts:List Value) (m:Nat) (ps:List Value) (G:Nat) (us:List Value) (I:Nat) (qs:List Value):Bool:= @decide (n=m∧G=I∧n≤10∧G≤10∧bj n ts m ps=true∧aS n ts m ps=0∧bj G us I qs=true∧aS G us I qs=0) (Classical.propDecidable _)
def fA (n:Nat) (ts ps us qs:List Value):Int:=if mb ps (n - 1) qs 0=true then @ite Int (qt us 0 < qt ts (n - 1)) (Classical.propDecidable _) 8 0 else 9
def e9:Jg:= ⟨rL,fA,dJ⟩
def sO (J:Jg):TF:=fun args=>match args with
 | [.agg [.lst _ 27 n f, .lst _ 35 m g], .agg [.lst _ 27 G I, .lst _ 35 M O]]=>
  some (an 3 n f&&an 6 m g&&(an 3 G I&&an 6 M O)&&J.jo n (ag 3 n f) m (ag 6 m g) G (ag 3 G I) M (ag 6 M O)&&decide (J.je n (ag 3 n f) (ag 6 m g) (ag 3 G I) (ag 6 M O)=0),
   .tup [.agg [.lst false 27 (n+G - J.jd n (ag 3 n f) (ag 3 G I)) (ad 3 (bA 3 (J.jd n (ag 3 n f) (ag 3 G I)) (ag 3 n f) (ag 3 G I))), .lst false 35 (n+G - J.jd n (ag 3 n f) (ag 3 G I)) (ad 6 (bA 6 (J.jd n (ag 3 n f) (ag 3 G I)) (ag 6 m g) (ag 6 M O)))], .val (.int .i64 0)])
 | _=>none
def sN (O:Jg):TF:=fun args=>match args with
 | [.agg [.lst _ 27 n f, .lst _ 35 m g], .agg [.lst _ 27 I J, .lst _ 35 G M]]=>
  some (an 3 n f&&an 6 m g&&(an 3 I J&&an 6 G M)&&O.jo n (ag 3 n f) m (ag 6 m g) I (ag 3 I J) G (ag 6 G M)&& !decide (O.je n (ag 3 n f) (ag 6 m g) (ag 3 I J) (ag 6 G M)=0),
   .tup [.agg [.val (.slice none 0 0), .val (.slice none 0 0)], .val (.int .i64 (O.je n (ag 3 n f) (ag 6 m g) (ag 3 I J) (ag 6 G M)))])
 | _=>none
end
end Go.Proofs.YtamcpiicmfielaaGreat.L
namespace Go.Proofs.YtamcpiicmfielaaGreat.L
open Go Go.V Go.RowKit Go.Proofs.YtamcpiicmfielaaGreat.Sp
open Go.Proofs (Tryz.prog)
noncomputable section
theorem lU {x y z:Value} (h:aY x y z=true):b8 x=true∧bb y=true∧bb z=true:=by
 obtain ⟨G,I,J⟩:=j6 h
 rw [G,I,J]
 exact ⟨rfl,rfl,rfl⟩
theorem NG {sz n k:Nat} {vs:List Value} :an sz n (fun j q=>ad sz vs (j+k) q)=true:=List.all_eq_true.2 fun i _=>rfl
theorem zV {sz n k:Nat} {vs:List Value} (h:vs.length=(n+k)*sz):ag sz n (fun j q=>ad sz vs (j+k) q)=vs.drop (k*sz):=by
 rw [Nat.add_mul] at h
 apply List.ext_getElem?
 intro i
 rw [List.getElem?_drop]
 by_cases hi:i < n*sz
 ·have J:0 < sz:=Nat.pos_of_ne_zero fun G=>by subst G;omega
  have I:=Nat.div_add_mod' i sz
  unfold ag
  rw [List.getElem?_map,List.getElem?_range hi,List.getElem?_eq_getElem (show k*sz+i < vs.length by omega)]
  show some (vs.getD ((i / sz+k)*sz+i % sz) undef)=_
  rw [show (i / sz+k)*sz+i % sz=k*sz+i by rw [Nat.add_mul];omega,List.getD_eq_getElem?_getD,List.getElem?_eq_getElem (show k*sz+i < vs.length by omega)];rfl
 ·rw [List.getElem?_eq_none (by rw [bI];omega),List.getElem?_eq_none (by omega)]
theorem nU {n:Nat} {ts:List Value} (U:ts.length=n*3) (h:∀ j,j < n→c8 ts j=true):(ao.vals ts).bk=true:=by
 show ts.all (·.oneCell')=true
 rw [List.all_eq_true]
 intro v O
 obtain ⟨i,hi,rfl⟩:=List.getElem_of_mem O
 obtain ⟨k1,_⟩:=df (h (i / 3) (by omega))
 obtain ⟨I,J,M⟩:=j6 k1
 have e:ts[i]=ts.getD (i / 3*3+i % 3) undef:=by
  rw [Nat.div_add_mod',List.getD_eq_getElem?_getD,List.getElem?_eq_getElem hi];rfl
 rw [e]
 have G:i % 3=0∨i % 3=1∨i % 3=2:=by omega
 rcases G with G | G | G <;> rw [G]
 ·rw [I];rfl
 ·rw [J];rfl
 ·rw [M];rfl
theorem xl {vs:List Value} (k:Nat) (h:(ao.vals vs).bk=true):(ao.vals (vs.drop k)).bk=true:=by
 have h:vs.all (·.oneCell')=true:=h
 show (vs.drop k).all (·.oneCell')=true
 rw [List.all_eq_true] at h ⊢
 exact fun v G=>h v (List.mem_of_mem_drop G)
def iy (n:Nat) (ts ps:List Value) (G:Nat) (us qs:List Value):AV:=
 bif decide (fA n ts ps us qs=0) then .tup [.agg [.lst false 27 (n+G - dJ n ts us) (ad 3 (bA 3 (dJ n ts us) ts us)), .lst false 35 (n+G - dJ n ts us) (ad 6 (bA 6 (dJ n ts us) ps qs))], .val (.int .i64 0)]
 else .tup [.agg [.val (.slice none 0 0), .val (.slice none 0 0)], .val (.int .i64 (fA n ts ps us qs))]
theorem Io:bf Tryz.prog (qV aX af):=((aJ _).add pC.cZ).add C6
theorem iF {a b:Rat} :af.cq a b < 0↔a < b:=by
 have:= @C2 a b
 constructor
 ·intro h
  exact Classical.byContradiction fun G=>by have:=this.2 G;omega
 ·intro h
  exact Classical.byContradiction fun G=>this.1 (by omega) h
theorem pB {a b:Rat} :0 < af.cq a b↔b < a:=by
 show 0 < iG a b↔_
 unfold iG
 split
 ·rename_i h;exact ⟨fun G=>by omega,fun G=>by grind⟩
 ·split
  ·rename_i h;exact ⟨fun _=>h,fun _=>by omega⟩
  ·rename_i h;exact ⟨fun G=>by omega,fun G=>absurd G h⟩
theorem yk {a b:Rat} :af.cq a b=0↔a=b:=by
 have I:= @iF a b
 have J:= @pB a b
 constructor
 ·intro h
  have M:¬ a < b:=fun G=>by have:=I.2 G;omega
  have O:¬ b < a:=fun G=>by have:=J.2 G;omega
  grind
 ·rintro rfl
  have M:¬ af.cq a a < 0:=fun G=>by have:=I.1 G;grind
  have O:¬ 0 < af.cq a a:=fun G=>by have:=J.1 G;grind
  omega
theorem Zv (p r:Nat) (ts ps us qs:List Value) (l1:ts.length=(p+1)*3) (l2:ps.length=(p+1)*6) (J:us.length=(r+1)*3) (M:qs.length=(r+1)*6)
  (b2:bj (p+1) ts (p+1) ps=true) (ca:aS (p+1) ts (p+1) ps=0) (b3:bj (r+1) us (r+1) qs=true) (cb:aS (r+1) us (r+1) qs=0) (ed:p+1≤10) (eg:r+1≤10):
  aF Tryz.prog ⟨qV aX af,au,aq⟩ 10 10 22 [aW (p+1) ts (p+1) ps,aW (r+1) us (r+1) qs]=some (iy (p+1) ts ps (r+1) us qs):=by
 have aE:=lC b2 ca
 have a1:=lC b3 cb
 have e1:((p+1:Nat):Int) - 1=(p:Int):=by omega
 obtain ⟨⟨ch,ct⟩,_,_⟩:=nb (aE.kC p (by omega))
 obtain ⟨⟨bD,b0⟩,_,_⟩:=nb (a1.kC 0 (by omega))
 obtain ⟨c0,c3⟩:=df (aE.ts.ok p (by omega))
 obtain ⟨d1,b1⟩:=df (a1.ts.ok 0 (by omega))
 simp only [Nat.zero_mul,Nat.zero_add] at bD b0 d1 b1
 obtain ⟨x1,x2,x3⟩:=lU ch
 obtain ⟨c4,c5,c6⟩:=lU ct
 obtain ⟨c7,dx,dy⟩:=lU bD
 obtain ⟨ea,eb,ec⟩:=lU b0
 have b4:=nU l1 aE.ts.ok
 have b5:=xm l2 aE.kC
 have b6:=nU J a1.ts.ok
 have b7:=xm M a1.kC
 have q1:af.qv (az (us.getD 0 undef)) (ah (us.getD 1 undef)) (ah (us.getD 2 undef))=qt us 0:=rfl
 rw [Zu]
 simp only [e1,Int.toNat_natCast,Nat.add_sub_cancel,Nat.zero_add,Int.zero_add,Int.sub_zero,aZ l1,aZ l2,aZ J,aZ M,bV,NG,ss,q1,show Int.toNat 1=1 from rfl,zV J,zV M]
 rw [show aX.ko (p+1) ts (p+1) ps=true from b2,show aX.ko (r+1) us (r+1) qs=true from b3,dT (show aX.ck (p+1) ts (p+1) ps=0 from ca),dT (show aX.ck (r+1) us (r+1) qs=0 from cb),
  aM (z:=(p:Int)) (by omega),dT (show (0:Int)≤(p:Int) by omega),dT (show (p:Int) < ((p+1:Nat):Int) by omega),x1,x2,x3,c4,c5,c6,c7,dx,dy,ea,eb,ec]
 by_cases G:mb ps p qs 0=true
 case neg=>
  have I:fA (p+1) ts ps us qs=9:=if_neg G
  unfold iy
  rw [I]
  rw [Bool.not_eq_true] at G
  unfold mb at G
  simp only [Nat.zero_mul,Nat.zero_add] at G
  rw [G];rfl
 have I:fA (p+1) ts ps us qs= @ite Int (qt us 0 < qt ts p) (Classical.propDecidable _) 8 0:=if_pos G
 unfold mb at G
 simp only [Nat.zero_mul,Nat.zero_add] at G
 rw [G,c0,fD c3,d1,fD b1]
 by_cases ab:qt us 0 < qt ts p
 ·rw [if_pos ab] at I
  unfold iy
  rw [I,dT (iF.2 ab)];rfl
 rw [if_neg ab] at I
 unfold iy
 rw [I,dF (fun h=>ab (iF.1 h))]
 by_cases Z:qt us 0=qt ts p
 ·have a6:dJ (p+1) ts us=1:=if_pos Z
  rw [a6,dT (yk.2 Z)]
  have k1:((p+1:Nat):Int)+(r:Int)=((p+1+r:Nat):Int):=by omega
  have a7:List.take ((p+1)*3) ts=ts:=List.take_of_length_le (by omega)
  have bx:List.take ((p+1)*6) ps=ps:=List.take_of_length_le (by omega)
  have O:=oz (sz:=3) (d:=1) (n:=p+1) (m:=r+1) l1 J
  have U:=oz (sz:=6) (d:=1) (n:=p+1) (m:=r+1) l2 M
  unfold bA at O U
  simp only [k1,Int.toNat_natCast,a7,bx]
  rw [aM (z:=((p+1+r:Nat):Int)) (by omega),dF (show ¬ (1000:Int) < ((p+1+r:Nat):Int) by omega),aM (z:=((p+1:Nat):Int)) (by omega),dT (show (0:Int) < ((p+1+r:Nat):Int) by omega),fL (m:=p+1+r) (by omega),fL (m:=p+1) (by omega),oM (m:=p+1+r) (by omega),oM (m:=p+1) (by omega),b4,b5,xl _ b6,xl _ b7,
   dT (show (p+1)*3≤(ao.vals ts).len from by show _≤ts.length;omega),dT (show (p+1)*6≤(ao.vals ps).len from by show _≤ps.length;omega),
   dT (show (p+1+r)*3≤(ao.vals (ts ++ List.drop (1*3) us)).len from by show _≤(ts ++ List.drop (1*3) us).length;rw [O];omega),dT (show (p+1+r)*6≤(ao.vals (ps ++ List.drop (1*6) qs)).len from by show _≤(ps ++ List.drop (1*6) qs).length;rw [U];omega),oe,oe]
  unfold bA
  rw [show p+1+(r+1) - 1=p+1+r by omega]
  rfl
 ·have a6:dJ (p+1) ts us=0:=if_neg Z
  rw [a6,dF (fun h=>Z (yk.1 h))]
  have k1:((p+1:Nat):Int)+((r+1:Nat):Int)=((p+1+(r+1):Nat):Int):=by omega
  have a7:List.take ((p+1)*3) ts=ts:=List.take_of_length_le (by omega)
  have bx:List.take ((p+1)*6) ps=ps:=List.take_of_length_le (by omega)
  have O:=oz (sz:=3) (d:=0) (n:=p+1) (m:=r+1) l1 J
  have U:=oz (sz:=6) (d:=0) (n:=p+1) (m:=r+1) l2 M
  unfold bA at O U
  simp only [k1,Int.toNat_natCast,a7,bx]
  rw [aM (z:=((p+1+(r+1):Nat):Int)) (by omega),dF (show ¬ (1000:Int) < ((p+1+(r+1):Nat):Int) by omega),aM (z:=((p+1:Nat):Int)) (by omega),fL (m:=p+1+(r+1)) (by omega),fL (m:=p+1) (by omega),oM (m:=p+1+(r+1)) (by omega),oM (m:=p+1) (by omega),b4,b5,b6,b7,
   dT (show (p+1)*3≤(ao.vals ts).len from by show _≤ts.length;omega),dT (show (p+1)*6≤(ao.vals ps).len from by show _≤ps.length;omega),
   dT (show (p+1+(r+1))*3≤(ao.vals (ts ++ us)).len from by show _≤(ts ++ us).length;rw [List.length_append];omega),dT (show (p+1+(r+1))*6≤(ao.vals (ps ++ qs)).len from by show _≤(ps ++ qs).length;rw [List.length_append];omega)]
  rw [show bA 3 0 ts us=ts ++ us from by unfold bA;rw [Nat.zero_mul,List.drop_zero],show bA 6 0 ps qs=ps ++ qs from by unfold bA;rw [Nat.zero_mul,List.drop_zero],Nat.sub_zero]
  simp only [oe]
  rfl
theorem MJ {n:Nat} {ts:List Value} {m:Nat} {ps:List Value} {G:Nat} {us:List Value} {I:Nat} {qs:List Value} (h:rL n ts m ps G us I qs=true):n=m∧G=I∧n≤10∧G≤10∧bj n ts m ps=true∧aS n ts m ps=0∧bj G us I qs=true∧aS G us I qs=0:= @of_decide_eq_true _ (Classical.propDecidable _) h
theorem MK {n:Nat} {ts:List Value} {m:Nat} {ps:List Value} {G:Nat} {us:List Value} {I:Nat} {qs:List Value} (l1:ts.length=n*3) (l2:ps.length=m*6) (Z:us.length=G*3) (ab:qs.length=I*6) (h:rL n ts m ps G us I qs=true):
  aF Tryz.prog ⟨qV aX af,au,aq⟩ 10 10 22 [aW n ts m ps,aW G us I qs]=some (iy n ts ps G us qs):=by
 obtain ⟨rfl,rfl,M,J,O,ca,U,cb⟩:=MJ h
 have aE:=(db ca).2.1
 have a1:=(db cb).2.1
 obtain ⟨p,rfl⟩:∃ p,n=p+1:= ⟨n - 1,by omega⟩
 obtain ⟨r,rfl⟩:∃ r,G=r+1:= ⟨G - 1,by omega⟩
 exact Zv p r ts ps us qs l1 l2 Z ab O ca U cb M J
theorem XL:Entry Tryz.prog 22 (sO e9):=by
 refine gV (by kernel_rfl) (fun args r h=> ?_)
 unfold sO at h
 split at h
 ·rename_i fl n f a6 m g a7 I J bx G M
  simp only [Option.some.injEq,Prod.mk.injEq,Bool.and_eq_true,decide_eq_true_eq] at h
  obtain ⟨⟨⟨⟨⟨Z,ab⟩,aE,a1⟩,O⟩,U⟩,rfl⟩:=h
  have O:rL n (ag 3 n f) m (ag 6 m g) I (ag 3 I J) G (ag 6 G M)=true:=O
  have U:fA n (ag 3 n f) (ag 6 m g) (ag 3 I J) (ag 6 G M)=0:=U
  refine ⟨⟨qV aX af,au,aq⟩,10,10,_,_,Io,aN,MK (bI 3 n f) (bI 6 m g) (bI 3 I J) (bI 6 G M) O,bc.cons (dM Z ab) (bc.cons (dM aE a1) (bc.refl _)), ?_⟩
  unfold iy
  rw [dT U]
  exact bE.refl _
 ·cases h
theorem XK:Entry Tryz.prog 22 (sN e9):=by
 refine gV (by kernel_rfl) (fun args r h=> ?_)
 unfold sN at h
 split at h
 ·rename_i fl n f a6 m g a7 I J bx G M
  simp only [Option.some.injEq,Prod.mk.injEq,Bool.and_eq_true,Bool.not_eq_true',decide_eq_false_iff_not] at h
  obtain ⟨⟨⟨⟨⟨Z,ab⟩,aE,a1⟩,O⟩,U⟩,rfl⟩:=h
  have O:rL n (ag 3 n f) m (ag 6 m g) I (ag 3 I J) G (ag 6 G M)=true:=O
  have U:¬ fA n (ag 3 n f) (ag 6 m g) (ag 3 I J) (ag 6 G M)=0:=U
  refine ⟨⟨qV aX af,au,aq⟩,10,10,_,_,Io,aN,MK (bI 3 n f) (bI 6 m g) (bI 3 I J) (bI 6 G M) O,bc.cons (dM Z ab) (bc.cons (dM aE a1) (bc.refl _)), ?_⟩
  unfold iy
  rw [dF U]
  exact bE.refl _
 ·cases h
end
end Go.Proofs.YtamcpiicmfielaaGreat.L
namespace Go.Proofs.YtamcpiicmfielaaGreat.L
open Go Go.V Go.RowKit Go.Proofs.YtamcpiicmfielaaGreat.Sp
open Go.Proofs (Tryz.prog)
noncomputable section
def GI:TF:=fun _=>some (false, .any)
theorem Lt {g:FuncId} :Entry Tryz.prog g GI:=fun args r h=>by cases h
end
end Go.Proofs.YtamcpiicmfielaaGreat.L
