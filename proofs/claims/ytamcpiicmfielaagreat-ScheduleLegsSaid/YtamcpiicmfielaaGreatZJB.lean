import Derived.Test.YtamcpiicmfielaaGreatZHW
import Derived.Test.YtamcpiicmfielaaGreatZHZ
set_option linter.unusedVariables false
set_option linter.unusedSimpArgs false
namespace Go.Proofs.YtamcpiicmfielaaGreat.L
open Go Go.V Go.RowKit Go.Proofs.YtamcpiicmfielaaGreat.Sp
open Go.Proofs (Tryz.prog)
noncomputable section
end
end Go.Proofs.YtamcpiicmfielaaGreat.L
namespace Go.Proofs.YtamcpiicmfielaaGreat.L
open Go Go.V Go.RowKit Go.Proofs.YtamcpiicmfielaaGreat.Sp
open Go.Proofs (Tryz.prog)
noncomputable section
structure Jn (n:Nat) (ts:List Value) (m:Nat) (us vs:List Value) (d:Nat):Prop where
 ha:fm n ts
 hb:fm m us
 n0:0 < n
 m0:0 < m
 d1:d≤1
 q1:∀ j,j < n→qt vs j=qt ts j
 q2:∀ j,j+d < m→qt vs (n+j)=qt us (j+d)
 e1:d=1→qt us 0=qt ts (n - 1)
 e0:d=0→qt ts (n - 1) < qt us 0
section
variable {n : Nat} {ts : List Value} {m : Nat} {us vs : List Value} {d : Nat} {ca cb cc : Nat → Rat} {x : Rat}
theorem K0 (h:Jn n ts m us vs d) (c1:∀ j,j < n→cc j=ca j) (U:¬ qt ts (n - 1) < x):bG (n+m - d) vs cc x=bG n ts ca x:=by
 have n0:=h.n0
 have m0:=h.m0
 have d1:=h.d1
 obtain ⟨g1,g2,J⟩:=rU ts x n
 have I:bF ts x n < n:=by
  refine Classical.byContradiction fun Z=>U (g2 (n - 1) (by omega))
 have M:bF vs x (n+m - d)=bF ts x n:=(rV (by omega) (fun k O=>by rw [h.q1 k (by omega)];exact g2 k O) (fun _=>by rw [h.q1 _ I];exact J I)).symm
 unfold bG
 rw [M]
 by_cases G:bF ts x n=0
 ·rw [if_pos G,if_pos G,c1 0 n0]
 ·rw [if_neg G,if_neg G,if_neg (show ¬ bF ts x n=n+m - d by omega),if_neg (show ¬ bF ts x n=n by omega),c1 _ I,c1 (bF ts x n - 1) (by omega),h.q1 _ I,h.q1 (bF ts x n - 1) (by omega)]
theorem K1 {a:Nat} (h:Jn n ts m us vs d) (ha:a+d=n) (q:∀ i,i < m→qt vs (a+i)=qt us i) (c:∀ i,i < m→cc (a+i)=cb i) (O:∀ k,k < a→qt vs k < x) (Z:0 < bF us x m):bG (n+m - d) vs cc x=bG m us cb x:=by
 have n0:=h.n0
 have m0:=h.m0
 have d1:=h.d1
 obtain ⟨g1,g2,I⟩:=rU us x m
 have J:bF vs x (n+m - d)=a+bF us x m:=(rV (by omega) (fun k U=>by
  by_cases M:k < a
  ·exact O k M
  ·rw [show k=a+(k - a) by omega,q (k - a) (by omega)]
   exact g2 _ (by omega)) (fun _=>by rw [q _ (by omega)];exact I (by omega))).symm
 unfold bG
 rw [J,if_neg (show ¬ a+bF us x m=0 by omega),if_neg (show ¬ bF us x m=0 by omega)]
 by_cases G:bF us x m=m
 ·rw [if_pos G,if_pos (show a+bF us x m=n+m - d by omega),show n+m - d - 1=a+(m - 1) by omega,c _ (by omega)]
 ·rw [if_neg G,if_neg (show ¬ a+bF us x m=n+m - d by omega),show a+bF us x m - 1=a+(bF us x m - 1) by omega,c _ (by omega),c _ (by omega),q _ (by omega),q _ (by omega)]
theorem KZ (h:Jn n ts m us vs d) (c1:∀ j,j < n→cc j=ca j) (c2:∀ j,j+d < m→cc (n+j)=cb (j+d)) (O:ca (n - 1)=cb 0) (aE:qt ts (n - 1) < x):bG (n+m - d) vs cc x=bG m us cb x:=by
 have n0:=h.n0
 have m0:=h.m0
 have d1:=h.d1
 obtain ⟨g1,g2,J⟩:=rU us x m
 have M:∀ k,k < n→qt ts k < x:=fun k I=>by
  have:=h.ha.le (show k≤n - 1 by omega) (by omega)
  grind
 by_cases Z:d=1
 ·subst Z
  have e1:=h.e1 rfl
  refine K1 (a:=n - 1) h (by omega) (fun i hi=> ?_) (fun i hi=> ?_) (fun k I=>by rw [h.q1 k (by omega)];exact M k (by omega)) ?_
  ·by_cases G:i=0
   ·subst G
    rw [Nat.add_zero,h.q1 _ (by omega),e1]
   ·rw [show n - 1+i=n+(i - 1) by omega,h.q2 _ (by omega),show i - 1+1=i by omega]
  ·by_cases G:i=0
   ·subst G
    rw [Nat.add_zero,c1 _ (by omega),O]
   ·rw [show n - 1+i=n+(i - 1) by omega,c2 _ (by omega),show i - 1+1=i by omega]
  ·refine Nat.pos_of_ne_zero fun G=> ?_
   rw [G] at J
   have:=J m0
   rw [e1] at this
   exact this aE
 ·obtain rfl:d=0:=by omega
  by_cases G:bF us x m=0
  ·have ab:bF vs x (n+m - 0)=n:=(rV (by omega) (fun k I=>by rw [h.q1 k I];exact M k I) (fun _=>by
    have:=h.q2 0 (by omega)
    rw [Nat.add_zero] at this
    rw [this]
    rw [G] at J
    exact J m0)).symm
   unfold bG
   have U:=c2 0 (by omega)
   rw [Nat.add_zero] at U
   rw [ab,G,if_neg (show ¬ n=0 by omega),if_neg (show ¬ n=n+m - 0 by omega),if_pos rfl,c1 _ (by omega),U,O]
   unfold kG
   grind
  ·exact K1 (a:=n) h (by omega) (fun i hi=>h.q2 i (by omega)) (fun i hi=>c2 i (by omega)) (fun k I=>by rw [h.q1 k I];exact M k I) (by omega)
theorem W9 (h:Jn n ts m us vs d) (j:Nat) (M:j+1 < n+m - d):qt vs j < qt vs (j+1):=by
 have n0:=h.n0
 have m0:=h.m0
 have d1:=h.d1
 by_cases G:j+1 < n
 ·rw [h.q1 j (by omega),h.q1 _ G]
  exact h.ha.up j G
 ·by_cases J:j < n
  ·obtain rfl:j=n - 1:=by omega
   rw [h.q1 (n - 1) (by omega),show n - 1+1=n+0 by omega,h.q2 0 (by omega)]
   by_cases I:d=1
   ·subst I
    rw [← h.e1 rfl]
    exact h.hb.up 0 (by omega)
   ·obtain rfl:d=0:=by omega
    exact h.e0 rfl
  ·rw [show j=n+(j - n) by omega,h.q2 _ (by omega),show n+(j - n)+1=n+(j - n+1) by omega,h.q2 _ (by omega),show j - n+1+d=j - n+d+1 by omega]
   exact h.hb.up _ (by omega)
end
end
end Go.Proofs.YtamcpiicmfielaaGreat.L
namespace Go.Proofs.YtamcpiicmfielaaGreat.L
open Go Go.V Go.RowKit Go.Proofs.YtamcpiicmfielaaGreat.Sp
open Go.Proofs (Tryz.prog)
noncomputable section
def cZ (sz d:Nat) (ts us:List Value):List Value:=ts ++ us.drop (d*sz)
section
variable {sz n m d j q : Nat} {ts us vs ps : List Value}
theorem mo (J:ts.length=n*sz) (I:j < n) (M:q < sz):(cZ sz d ts us).getD (j*sz+q) undef=ts.getD (j*sz+q) undef:=by
 have G:=Nat.mul_le_mul_right sz (show j+1≤n from I)
 rw [Nat.add_mul,Nat.one_mul] at G
 unfold cZ
 rw [List.getD_eq_getElem?_getD,List.getElem?_append_left (by omega),← List.getD_eq_getElem?_getD]
theorem oY (I:ts.length=n*sz):(cZ sz d ts us).getD ((n+j)*sz+q) undef=us.getD ((j+d)*sz+q) undef:=by
 have e1:(n+j)*sz+q=n*sz+(j*sz+q):=by rw [Nat.add_mul,Nat.add_assoc]
 have G:(j+d)*sz+q=d*sz+(j*sz+q):=by rw [Nat.add_mul];omega
 unfold cZ
 rw [List.getD_eq_getElem?_getD,List.getElem?_append_right (by omega),I,e1,Nat.add_sub_cancel_left,List.getElem?_drop,← G,← List.getD_eq_getElem?_getD]
theorem rQ {i:Nat} (h:∀ q,q < 3→vs.getD (j*3+q) undef=us.getD (i*3+q) undef):qt vs j=qt us i∧dc vs j=dc us i∧jj vs j=jj us i:=by
 have G:=h 0 (by decide)
 have I:=h 1 (by decide)
 have J:=h 2 (by decide)
 unfold qt dc jj fe
 rw [G,I,J]
 exact ⟨rfl,rfl,rfl⟩
theorem lP {i:Nat} (h:∀ q,q < 6→vs.getD (j*6+q) undef=us.getD (i*6+q) undef):px vs j=px us i∧py vs j=py us i∧c8 vs j=c8 us i∧jK vs j=jK us i:=by
 have G:=h 0 (by decide)
 have I:=h 1 (by decide)
 have J:=h 2 (by decide)
 have M:=h 3 (by decide)
 have O:=h 4 (by decide)
 have U:=h 5 (by decide)
 unfold px py c8 jK gV vi
 rw [G,I,J,M,O,U]
 exact ⟨rfl,rfl,rfl,rfl⟩
end
section
variable {n m d : Nat} {ts us ps qs : List Value}
structure Jt (n:Nat) (ts ps:List Value) (m:Nat) (us qs:List Value) (d:Nat):Prop where
 pa:oz n ts n ps
 pb:oz m us m qs
 l1:ts.length=n*3
 l2:ps.length=n*6
 d1:d≤1
 lim:n+m≤1000
 e1:d=1→qt us 0=qt ts (n - 1)
 e0:d=0→qt ts (n - 1) < qt us 0
 ex:px ps (n - 1)=px qs 0
 ey:py ps (n - 1)=py qs 0
theorem Jt.jn (h:Jt n ts ps m us qs d):Jn n ts m us (cZ 3 d ts us) d where
 ha:=h.pa.ts
 hb:=h.pb.ts
 n0:=h.pa.pos
 m0:=h.pb.pos
 d1:=h.d1
 q1 j G:=(rQ fun q I=>mo h.l1 G I).1
 q2 j G:=(rQ fun q I=>oY h.l1).1
 e1:=h.e1
 e0:=h.e0
theorem Jt.pl (h:Jt n ts ps m us qs d):oz (n+m - d) (cZ 3 d ts us) (n+m - d) (cZ 6 d ps qs) where
 eq:=rfl
 pos:=by have:=h.pa.pos;have:=h.pb.pos;have:=h.d1;omega
 ts:= {
  lim:=by have:=h.lim;omega
  ok:=fun j M=>by
   have J:=h.d1
   by_cases G:j < n
   ·rw [(rQ fun q I=>mo (d:=d) (us:=us) h.l1 G I).2.1]
    exact h.pa.ts.ok j G
   ·obtain ⟨k,rfl⟩:∃ k,j=n+k:= ⟨j - n,by omega⟩
    rw [(rQ fun q I=>oY (j:=k) (d:=d) (us:=us) (q:=q) h.l1).2.1]
    exact h.pb.ts.ok _ (by omega)
  up:=W9 h.jn }
 lN:=fun j M=>by
  have J:=h.d1
  by_cases G:j < n
  ·rw [(lP fun q I=>mo (d:=d) (us:=qs) h.l2 G I).2.2.1]
   exact h.pa.lN j G
  ·obtain ⟨k,rfl⟩:∃ k,j=n+k:= ⟨j - n,by omega⟩
   rw [(lP fun q I=>oY (j:=k) (d:=d) (us:=qs) (q:=q) h.l2).2.2.1]
   exact h.pb.lN _ (by omega)
 can:=fun j M=>by
  have J:=h.d1
  by_cases G:j < n
  ·rw [(lP fun q I=>mo (d:=d) (us:=qs) h.l2 G I).2.2.2]
   exact h.pa.can j G
  ·obtain ⟨k,rfl⟩:∃ k,j=n+k:= ⟨j - n,by omega⟩
   rw [(lP fun q I=>oY (j:=k) (d:=d) (us:=qs) (q:=q) h.l2).2.2.2]
   exact h.pb.can _ (by omega)
theorem Jt.lo (h:Jt n ts ps m us qs d) {x:Rat} (J:¬ qt ts (n - 1) < x):bG (n+m - d) (cZ 3 d ts us) (px (cZ 6 d ps qs)) x=bG n ts (px ps) x∧bG (n+m - d) (cZ 3 d ts us) (py (cZ 6 d ps qs)) x=bG n ts (py ps) x:=
 ⟨K0 h.jn (fun j G=>(lP fun q I=>mo h.l2 G I).1) J,K0 h.jn (fun j G=>(lP fun q I=>mo h.l2 G I).2.1) J⟩
theorem Jt.hi (h:Jt n ts ps m us qs d) {x:Rat} (J:qt ts (n - 1) < x):bG (n+m - d) (cZ 3 d ts us) (px (cZ 6 d ps qs)) x=bG m us (px qs) x∧bG (n+m - d) (cZ 3 d ts us) (py (cZ 6 d ps qs)) x=bG m us (py qs) x:=
 ⟨KZ (ca:=px ps) h.jn (fun j G=>(lP fun q I=>mo h.l2 G I).1) (fun j G=>(lP fun q I=>oY h.l2).1) h.ex J,KZ (ca:=py ps) h.jn (fun j G=>(lP fun q I=>mo h.l2 G I).2.1) (fun j G=>(lP fun q I=>oY h.l2).2.1) h.ey J⟩
theorem I1 {ts ps:List Value} {j:Nat} (h:bE ts ps j=0):jj ts j=false:=by
 have G:=(qA h).1
 unfold jj
 rw [decide_eq_true (show ad.ck (ar (ts.getD (j*3+0) undef)) (ag (ts.getD (j*3+1) undef)) (ag (ts.getD (j*3+2) undef))=0 from G)];rfl
theorem Jt.ok (h:Jt n ts ps m us qs d) (ha:bb n ts n ps=0) (hb:bb m us m qs=0):bQ (n+m - d) (cZ 3 d ts us) (n+m - d) (cZ 6 d ps qs)=true∧bb (n+m - d) (cZ 3 d ts us) (n+m - d) (cZ 6 d ps qs)=0:=by
 have G:=h.pl
 have aE:=h.d1
 have a1:=G.ts.lim
 have a6:=G.pos
 constructor
 ·unfold bQ
  rw [Bool.and_eq_true,List.all_eq_true,List.all_eq_true]
  exact ⟨fun j I=>G.ts.ok j (List.mem_range.1 I),fun j I=>G.lN j (List.mem_range.1 I)⟩
 ·unfold bb
  rw [if_neg (fun h=>h rfl),if_neg (show ¬ n+m - d=0 by omega),if_neg (show ¬ 1000 < n+m - d by omega)]
  refine w5 fun j I=> ?_
  unfold bE
  have Z:jj (cZ 3 d ts us) j=false:=by
   by_cases J:j < n
   ·rw [(rQ fun q O=>mo (d:=d) (us:=us) h.l1 J O).2.2]
    exact I1 ((fo ha).2.2.2 j J)
   ·obtain ⟨k,rfl⟩:∃ k,j=n+k:= ⟨j - n,by omega⟩
    rw [(rQ fun q O=>oY (j:=k) (d:=d) (us:=us) (q:=q) h.l1).2.2]
    exact I1 ((fo hb).2.2.2 (k+d) (by omega))
  have J:¬ (jj (cZ 3 d ts us) j=true∨oE (cZ 6 d ps qs) j=true):=by
   unfold oE
   rw [Z,G.can j I]
   exact fun h=>h.elim (fun h=>by cases h) (fun h=>by cases h)
  have U:¬ (0 < j∧0≤ad.cq (qt (cZ 3 d ts us) (j - 1)) (qt (cZ 3 d ts us) j)):=fun ⟨ab,M⟩=>by
   rw [qF] at M
   have:=G.ts.up (j - 1) (by omega)
   rw [show j - 1+1=j by omega] at this
   exact M this
  rw [if_neg J,if_neg U]
end
end
end Go.Proofs.YtamcpiicmfielaaGreat.L
namespace Go.Proofs.YtamcpiicmfielaaGreat.L
open Go Go.V Go.RowKit Go.Proofs.YtamcpiicmfielaaGreat.Sp
open Go.Proofs (Tryz.prog)
noncomputable section
end
end Go.Proofs.YtamcpiicmfielaaGreat.L
namespace Go.Proofs.YtamcpiicmfielaaGreat.L
open Go Go.V Go.RowKit Go.Proofs.YtamcpiicmfielaaGreat.Sp
open Go.Proofs (Tryz.prog)
noncomputable section
theorem qu {n:Nat} {ts:List Value} (U:ts.length=n*3) (h:∀ j,j < n→dc ts j=true):(an.vals ts).bJ=true:=by
 show ts.all (·.oneCell')=true
 rw [List.all_eq_true]
 intro v O
 obtain ⟨i,hi,rfl⟩:=List.getElem_of_mem O
 obtain ⟨k1,_⟩:=cg (h (i / 3) (by omega))
 obtain ⟨I,J,M⟩:=fO k1
 have e:ts[i]=ts.getD (i / 3*3+i % 3) undef:=by
  rw [Nat.div_add_mod',List.getD_eq_getElem?_getD,List.getElem?_eq_getElem hi];rfl
 rw [e]
 have G:i % 3=0∨i % 3=1∨i % 3=2:=by omega
 rcases G with G | G | G <;> rw [G]
 ·rw [I];rfl
 ·rw [J];rfl
 ·rw [M];rfl
theorem bo {a b:Rat} :ad.cq a b < 0↔a < b:=by
 have:= @qF a b
 constructor
 ·intro h
  exact Classical.byContradiction fun G=>by have:=this.2 G;omega
 ·intro h
  exact Classical.byContradiction fun G=>this.1 (by omega) h
theorem nD {a b:Rat} :0 < ad.cq a b↔b < a:=by
 show 0 < fL a b↔_
 unfold fL
 split
 ·rename_i h;exact ⟨fun G=>by omega,fun G=>by grind⟩
 ·split
  ·rename_i h;exact ⟨fun _=>h,fun _=>by omega⟩
  ·rename_i h;exact ⟨fun G=>by omega,fun G=>absurd G h⟩
end
end Go.Proofs.YtamcpiicmfielaaGreat.L
namespace Go.Proofs.YtamcpiicmfielaaGreat.L
open Go Go.V Go.RowKit Go.Proofs.YtamcpiicmfielaaGreat.Sp
open Go.Proofs (Tryz.prog)
noncomputable section
def GS (G:Gg) (C:Cg) (K:Hg) (I:Qg) (E:FuncId→TF):FuncId→TF:=au 7 (Fo G) (au 19 (pS C) (au 8 (zt K) (au 49 (oe I) (au 9 Fj E))))
end
end Go.Proofs.YtamcpiicmfielaaGreat.L
namespace Go.Proofs.YtamcpiicmfielaaGreat.L
open Go Go.V Go.RowKit Go.Proofs.YtamcpiicmfielaaGreat.Sp
open Go.Proofs (Tryz.prog)
noncomputable section
theorem ZM (p q:Rat):(ad.qn p==ad.qn p&&(aF (ad.qs p) (ad.qs p)&&(aF (ad.qd p) (ad.qd p)&&true))&&(ad.qn q==ad.qn q&&(aF (ad.qs q) (ad.qs q)&&(aF (ad.qd q) (ad.qd q)&&true))&&true))=true:=by
 simp only [beq_self_eq_true,kA,Bool.and_self]
end
end Go.Proofs.YtamcpiicmfielaaGreat.L
