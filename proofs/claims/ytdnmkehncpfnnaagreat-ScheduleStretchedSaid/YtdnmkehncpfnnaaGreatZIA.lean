import Derived.Test.YtdnmkehncpfnnaaGreatZHW
import Derived.Test.YtdnmkehncpfnnaaGreatZHZ
import Derived.Deep.Slices
import Derived.Carry
import Derived.ChangeOld
import Derived.Lib.SmallJoins
set_option linter.unusedVariables false
set_option linter.unusedSimpArgs false
namespace Go.Proofs.YtdnmkehncpfnnaaGreat.L
open Go Go.V Go.RowKit Go.Proofs.YtdnmkehncpfnnaaGreat.Sp
open Go.Proofs (Tryz.prog)
noncomputable section
section
variable {n : Nat} {q : Nat → Rat}
theorem qt_cells {j:Nat} (hj:j < n):qt (cells3 n q) j=q j:=qat_cells3 n q hj
theorem okT_cells {j:Nat} (hj:j < n):okT (cells3 n q) j=true:=by
 unfold okT
 rw [cells3_b n q hj,cells3_n n q hj,cells3_d n q hj];rfl
theorem okX_cells {j:Nat} (hj:j < n) (hs:szq (q j)≤1000):okX (cells3 n q) j=true:=by
 unfold okX
 rw [okT_cells hj,cells3_n n q hj,cells3_d n q hj,asS_str,asS_str,okm_rat hs];rfl
theorem trj_cells {ts ps:List Value} (h:PlOk n ts n ps) (hs:∀ j,j < n→szq (q j)≤1000) (hu:∀ j,j+1 < n→q j < q (j+1)):koN n (cells3 n q) n ps=true∧ckN n (cells3 n q) n ps=0:=by
 have hpos:=h.pos
 have hlim:=h.ts.lim
 constructor
 ·unfold koN
  rw [Bool.and_eq_true,List.all_eq_true,List.all_eq_true]
  exact ⟨fun j hj=>okX_cells (List.mem_range.1 hj) (hs j (List.mem_range.1 hj)),fun j hj=>h.pts j (List.mem_range.1 hj)⟩
 ·unfold ckN
  rw [if_neg (fun h=>h rfl),if_neg (show ¬ n=0 by omega),if_neg (show ¬ 1000 < n by omega)]
  refine ckL_zero fun j hj=> ?_
  unfold ckE
  have h1:¬ (badX (cells3 n q) j=true∨badP ps j=true):=by
   unfold badX badP
   rw [cells3_b n q hj,cells3_n n q hj,cells3_d n q hj,asB_bool,asS_str,asS_str,ck_rat,h.can j hj]
   exact fun h=>h.elim (fun h=>by cases h) (fun h=>by cases h)
  have h2:¬ (0 < j∧0≤sq0.cq (qt (cells3 n q) (j - 1)) (qt (cells3 n q) j)):=fun ⟨h3,h4⟩=>by
   rw [cq_ge,qt_cells (by omega),qt_cells hj] at h4
   have:=hu (j - 1) (by omega)
   rw [show j - 1+1=j by omega] at this
   exact h4 this
  rw [if_neg h1,if_neg h2]
theorem srN_map {ts:List Value} {F:Rat→Rat} (hF:∀ a b,F a < F b↔a < b) (hq:∀ j,j < n→q j=F (qt ts j)) (x:Rat):srN (cells3 n q) (F x) n=srN ts x n:=by
 obtain ⟨h1,h2,h3⟩:=srN_is ts x n
 refine (srN_uniq h1 (fun k hk=> ?_) (fun h=> ?_)).symm
 ·rw [qt_cells (by omega),hq k (by omega),hF]
  exact h2 k hk
 ·rw [qt_cells h,hq _ h,hF]
  exact h3 h
theorem pl1_map {ts:List Value} {F:Rat→Rat} (hF:∀ a b,F a < F b↔a < b) (hR:∀ a b c,(F a - F b) / (F c - F b)=(a - b) / (c - b)) (hq:∀ j,j < n→q j=F (qt ts j)) (c:Nat→Rat) (x:Rat):pl1 n (cells3 n q) c (F x)=pl1 n ts c x:=by
 have h1:=(srN_is ts x n).1
 unfold pl1
 rw [srN_map hF hq x]
 split
 ·rfl
 ·split
  ·rfl
  ·rename_i g1 g2
   rw [qt_cells (by omega),qt_cells (by omega),hq _ (by omega),hq _ (by omega),hR]
end
end
end Go.Proofs.YtdnmkehncpfnnaaGreat.L
namespace Go.Proofs.YtdnmkehncpfnnaaGreat.L
open Go Go.V Go.RowKit Go.Proofs.YtdnmkehncpfnnaaGreat.Sp
open Go.Proofs (Tryz.prog)
noncomputable section
end
end Go.Proofs.YtdnmkehncpfnnaaGreat.L
namespace Go.Proofs.YtdnmkehncpfnnaaGreat.L
open Go Go.V Go.ChangeShapes Go.WideShapes Go.RowKit Go.Deep Go.Joins Go.Proofs.YtdnmkehncpfnnaaGreat.Sp
open Go.Proofs (Tryz.prog)
noncomputable section
section
variable {H : Type} {enc : TypeId × Value → H} {w w' : World}
theorem back_arg {t:TypeId} {v:Value} {d:DataW H} {ps:List MemPlace} (hr:Tryz.prog.readableRec t=true) (hrow:t < Tryz.prog.types.size) (h:DataW.Trod enc Tryz.prog w 0 (fun _=>true) true t v d ps) (hb:Below w.heap.size w w'):
  DataW.Trod enc Tryz.prog w' 0 (fun b=>decide (b < w.heap.size)) true t v d ps:=
 Below.trod (by kernel_rfl) hr hrow h hb (fun x hx=>by obtain ⟨n,hn⟩:=h;exact DataW.trod_lt n _ _ _ hn x hx)
theorem slice_rel {t e:TypeId} {fuel:Nat} {v:Value} {x:DataW H×List MemPlace} (ht:Tryz.prog.underlying t=some (.slice e)) (hc:0 < Tryz.prog.cellsOf e) (h:DataW.trod enc Tryz.prog w 0 (fun _=>true) true fuel t [v]=some x):
  ∃ (n:Nat) (f:Nat→Nat→Value),n≤9223372036854775807∧(AV.lst false e n (fun j q=> .val (f j q))).Rel Tryz.prog NoA (fun _=>False) w NoD v∧∀ j,j < n→∃ m y,DataW.trod enc Tryz.prog w 0 (fun _=>true) true m e ((List.range (Tryz.prog.cellsOf e)).map (f j))=some y:=by
 rcases open_slice ht h with ⟨h0,_⟩ | ⟨a,len,cap,m,n,D,Pl,h0,hb,hl,hm,hmm,_,hx⟩
 ·cases h0
  exact ⟨0,fun _ _=>undef,Nat.zero_le _, ⟨none,0,rfl,Nat.le_refl _,(fun h=>by cases h), .inl rfl⟩,fun j hj=>by omega⟩
 ·cases h0
  have hm2:m=cap:=by rw [hmm];rfl
  have hmx:cap≤9223372036854775807:=hm
  by_cases hl0:len=0
  ·subst hl0
   exact ⟨0,fun _ _=>undef,Nat.zero_le _, ⟨some a,_,rfl,hl,(fun h=>by cases h), .inl rfl⟩,fun j hj=>by omega⟩
  ·obtain ⟨cs,hcs⟩:=choose_lt (α:=List Value) (p:=fun i l=>w.cells? 0 (a.add (i*Tryz.prog.cellsOf e)) (Tryz.prog.cellsOf e)=some l∧DataW.trod enc Tryz.prog w 0 (fun _=>true) true n e l=some (D i,Pl i)) (n:=len) (fun i hi=>hx i (by omega))
   have hcell:∀ j,j < len→(cs j).length=Tryz.prog.cellsOf e∧∀ q,q < Tryz.prog.cellsOf e→w.cell? (a.add (j*Tryz.prog.cellsOf e+q))=some ((cs j).getD q undef):=fun j hj=>by
    obtain ⟨_,h2,h3⟩:=World.cells?_some (hcs j hj).1
    refine ⟨h2,fun q hq=> ?_⟩
    have:=h3 q hq
    rw [add_add] at this
    rw [this,List.getD_eq_getElem?_getD,List.getElem?_eq_getElem (show q < (cs j).length by omega)];rfl
   have h00:=(hcell 0 (by omega)).2 0 hc
   have hsp:a.spot=none:=by
    have:a.add (0*Tryz.prog.cellsOf e+0)=a:=by rw [Nat.zero_mul];rfl
    rw [this] at h00
    exact World.cell?_spot h00
   obtain ⟨b,o,spot⟩:=a
   have hsp:spot=none:=hsp
   subst hsp
   have hadd:∀ i,(⟨b,o,none⟩:Addr).add i= ⟨b,o+i,none⟩:=fun i=>by
    unfold Addr.add
    split
    ·rename_i h;subst h;rfl
    ·rfl
   rw [hadd] at h00
   have hheap:∃ c ty fr,w.heap[b]? =some (.cells c ty fr):=by
    unfold World.cell? at h00
    simp only at h00
    split at h00
    ·rename_i c ty fr hh;exact ⟨c,ty,fr,hh⟩
    ·cases h00
   obtain ⟨c,ty,fr,hh⟩:=hheap
   have hget:∀ i y,w.cell? ⟨b,i,none⟩=some y→c[i]? =some y:=fun i y h=>by
    unfold World.cell? at h
    simp only [hh] at h
    exact h
   have hrel:(AV.lst false e len (fun j q=> .val ((cs j).getD q undef))).Rel Tryz.prog NoA (fun _=>False) w NoD (.slice (some ⟨b,o,none⟩) len cap):=by
    refine ⟨some ⟨b,o,none⟩,cap,rfl,hl,(fun h=>by cases h), .inr ⟨b,o,c,ty,fr,rfl,(fun h=>h),hh,fun j k hj hk=> ⟨(cs j).getD k undef, ?_,rfl⟩⟩⟩
    have:=(hcell j hj).2 k hk
    rw [hadd] at this
    rw [Nat.add_assoc]
    exact hget _ _ this
   refine ⟨len,fun j q=>(cs j).getD q undef,by omega,hrel,fun j hj=> ⟨n,(D j,Pl j), ?_⟩⟩
   have e1:(List.range (Tryz.prog.cellsOf e)).map (fun q=>(cs j).getD q undef)=cs j:=by
    have hl2:=(hcell j hj).1
    apply List.ext_getElem?
    intro i
    by_cases hi:i < Tryz.prog.cellsOf e
    ·rw [List.getElem?_map,List.getElem?_range hi,List.getElem?_eq_getElem (show i < (cs j).length by omega),Option.map_some,List.getD_eq_getElem?_getD,List.getElem?_eq_getElem (show i < (cs j).length by omega)];rfl
    ·rw [List.getElem?_eq_none (by simp;omega),List.getElem?_eq_none (by omega)]
   rw [e1]
   exact (hcs j hj).2
theorem cells_rat {fuel:Nat} {a b c:Value} {x:DataW H×List MemPlace} (h:DataW.trod enc Tryz.prog w 0 (fun _=>true) true fuel 24 [a,b,c]=some x):isRat a b c=true:=by
 obtain ⟨y0,y1,y2,n,_,_,h0,h1,h2⟩:=trod_struct3 (Tryz.underlying24) h
 have e0:Tryz.prog.cellsOf 4=1:=by kernel_rfl
 have e1:Tryz.prog.cellsOf 9=1:=by kernel_rfl
 simp only [e0,e1] at h0 h1 h2
 obtain ⟨b1,q1,_⟩:=DataW.trod_bool (show Tryz.prog.underlying _=some .bool from by kernel_rfl) h0
 obtain ⟨s1,q2,_⟩:=DataW.trod_string (show Tryz.prog.underlying _=some .string from by kernel_rfl) h1
 obtain ⟨s2,q3,_⟩:=DataW.trod_string (show Tryz.prog.underlying _=some .string from by kernel_rfl) h2
 cases q1;cases q2;cases q3
 rfl
theorem cells_pt {fuel:Nat} {a b c d e f:Value} {x:DataW H×List MemPlace} (h:DataW.trod enc Tryz.prog w 0 (fun _=>true) true fuel 38 [a,b,c,d,e,f]=some x):isRat a b c=true∧isRat d e f=true:=by
 obtain ⟨y0,y1,n,_,_,h0,h1⟩:=trod_struct2 (Tryz.underlying38) h
 have e0:Tryz.prog.cellsOf 24=3:=by kernel_rfl
 simp only [e0] at h0 h1
 exact ⟨cells_rat h0,cells_rat h1⟩
theorem row6 {l:List Value} (n:Nat) (f:Nat→Nat→Value) {j q:Nat} (sz:Nat) (hj:j < n) (hq:q < sz):(rowV sz n (fun j q=> .val (f j q))).getD (j*sz+q) undef=f j q:=by
 have h:=rowV_at (sz:=sz) (m:=n) (f:=fun j q=> .val (f j q)) (List.all_eq_true.2 fun i _=>rfl) hj hq
 exact (AV.val.inj h).symm
theorem arg_pts0 {fuel:Nat} {v:Value} {x:DataW H×List MemPlace} (h:DataW.trod enc Tryz.prog w 0 (fun _=>true) true fuel 22 [v]=some x):
  ∃ (n:Nat) (ps:List Value),ps.length=n*6∧okpN n ps=true∧(AV.lst false 38 n (vrow 6 ps)).Rel Tryz.prog NoA (fun _=>False) w NoD v:=by
 have ec:Tryz.prog.cellsOf 38=6:=by kernel_rfl
 obtain ⟨n,f,hn,hr,hx⟩:=slice_rel (e:=38) (by kernel_rfl) (by rw [ec];decide) h
 refine ⟨n,rowV 6 n (fun j q=> .val (f j q)),rowV_len _ _ _, ?_,row_normV (by kernel_rfl) (List.all_eq_true.2 fun i _=>rfl) hr⟩
 unfold okpN
 rw [Bool.and_eq_true,decide_eq_true_eq,List.all_eq_true]
 refine ⟨hn,fun j hj=> ?_⟩
 rw [List.mem_range] at hj
 obtain ⟨m,y,hy⟩:=hx j hj
 rw [ec] at hy
 obtain ⟨k1,k2⟩:=cells_pt (show DataW.trod enc Tryz.prog w 0 (fun _=>true) true m 38 [f j 0,f j 1,f j 2,f j 3,f j 4,f j 5]=some y from hy)
 unfold okP
 rw [row6 (l:= []) n f 6 hj (by decide),row6 (l:= []) n f 6 hj (by decide),row6 (l:= []) n f 6 hj (by decide),row6 (l:= []) n f 6 hj (by decide),row6 (l:= []) n f 6 hj (by decide),row6 (l:= []) n f 6 hj (by decide),k1,k2];rfl
theorem arg_rats0 {fuel:Nat} {v:Value} {x:DataW H×List MemPlace} (h:DataW.trod enc Tryz.prog w 0 (fun _=>true) true fuel 28 [v]=some x):
  ∃ (n:Nat) (ts:List Value),ts.length=n*3∧okTs n ts=true∧(AV.lst false 24 n (vrow 3 ts)).Rel Tryz.prog NoA (fun _=>False) w NoD v:=by
 have ec:Tryz.prog.cellsOf 24=3:=by kernel_rfl
 obtain ⟨n,f,hn,hr,hx⟩:=slice_rel (e:=24) (by kernel_rfl) (by rw [ec];decide) h
 refine ⟨n,rowV 3 n (fun j q=> .val (f j q)),rowV_len _ _ _, ?_,row_normV (by kernel_rfl) (List.all_eq_true.2 fun i _=>rfl) hr⟩
 unfold okTs
 rw [Bool.and_eq_true,decide_eq_true_eq,List.all_eq_true]
 refine ⟨hn,fun j hj=> ?_⟩
 rw [List.mem_range] at hj
 obtain ⟨m,y,hy⟩:=hx j hj
 rw [ec] at hy
 have k1:=cells_rat (show DataW.trod enc Tryz.prog w 0 (fun _=>true) true m 24 [f j 0,f j 1,f j 2]=some y from hy)
 unfold okT
 rw [row6 (l:= []) n f 3 hj (by decide),row6 (l:= []) n f 3 hj (by decide),row6 (l:= []) n f 3 hj (by decide),k1]
theorem arg_trj {cs:Array Value} {d:DataW H} {p:List MemPlace} (h:DataW.Trod enc Tryz.prog w 0 (fun _=>true) true 30 (.agg cs) d p):
  ∃ (n:Nat) (ts:List Value) (m:Nat) (ps:List Value),ts.length=n*3∧okTs n ts=true∧ps.length=m*6∧okpN m ps=true∧(AV.agg [.lst false 24 n (vrow 3 ts), .lst false 38 m (vrow 6 ps)]).Rel Tryz.prog NoA (fun _=>False) w NoD (.agg cs):=by
 obtain ⟨k,hk⟩:=h
 have hk:DataW.trod enc Tryz.prog w 0 (fun _=>true) true k 30 cs.toList=some (d,p):=hk
 obtain ⟨y0,y1,n,_,hl,h0,h1⟩:=trod_struct2 (Tryz.underlying30) hk
 have ec:Tryz.prog.cellsOf 30=2:=by kernel_rfl
 have e0:Tryz.prog.cellsOf 28=1:=by kernel_rfl
 have e1:Tryz.prog.cellsOf 22=1:=by kernel_rfl
 rw [ec] at hl
 obtain ⟨l⟩:=cs
 have hl2:∃ a b,l= [a,b]:=by
  cases l with
  | nil=>cases hl
  | cons a l=>cases l with
   | nil=>cases hl
   | cons b l=>cases l with
    | nil=>exact ⟨a,b,rfl⟩
    | cons c l=>exact absurd hl (by simp)
 obtain ⟨a,b,rfl⟩:=hl2
 simp only [e0,e1] at h0 h1
 obtain ⟨n1,ts,q1,q2,q3⟩:=arg_rats0 h0
 obtain ⟨m1,ps,r1,r2,r3⟩:=arg_pts0 h1
 exact ⟨n1,ts,m1,ps,q1,q2,r1,r2,_,rfl,a,_,rfl,q3,b,_,rfl,r3,rfl⟩
end
end
end Go.Proofs.YtdnmkehncpfnnaaGreat.L
namespace Go.Proofs.YtdnmkehncpfnnaaGreat.L
open Go Go.V Go.RowKit Go.Proofs.YtdnmkehncpfnnaaGreat.Sp
open Go.Proofs (Tryz.prog)
noncomputable section
theorem pair_eqD (p q:Rat):(sq0.qn p==sq0.qn p&&(strEq (sq0.qs p) (sq0.qs p)&&(strEq (sq0.qd p) (sq0.qd p)&&true))&&(sq0.qn q==sq0.qn q&&(strEq (sq0.qs q) (sq0.qs q)&&(strEq (sq0.qd q) (sq0.qd q)&&true))&&true))=true:=by
 simp only [beq_self_eq_true,strEq_self,Bool.and_self]
theorem rat_eqD (p:Rat):(sq0.qn p==sq0.qn p&&(strEq (sq0.qs p) (sq0.qs p)&&(strEq (sq0.qd p) (sq0.qd p)&&true)))=true:=by
 simp only [beq_self_eq_true,strEq_self,Bool.and_self]
theorem atD {n:Nat} {ts ps:List Value} {b:Bool} {s d:BA} (hk:koN n ts n ps=true) (hc:ckN n ts n ps=0) (ho:okm s d=true) (hx:sq0.ck b s d=0):
  ag0.ak n ts n ps s d=true∧ag0.ae n ts n ps b s d=0∧ag0.ax n ts n ps b s d=pl1 n ts (px ps) (sq0.qv b s d)∧ag0.ay n ts n ps b s d=pl1 n ts (py ps) (sq0.qv b s d):=by
 have he:atE n ts n ps b s d=0:=by
  unfold atE
  rw [if_pos ⟨hc,hx⟩]
 refine ⟨?_,he,if_pos he,if_pos he⟩
 show (koN n ts n ps&&okm _ _)=true
 rw [hk,ho];rfl
theorem dkD {n:Nat} {ts ps:List Value} {b:Bool} {s d:BA} (hk:koN n ts n ps=true) (hc:ckN n ts n ps=0) (ho:okm s d=true) (hx:sq0.ck b s d=0):dg0.dk n ts n ps b s d=true:=by
 show dkN n ts n ps b s d=true
 unfold dkN
 rw [hk,ho,decide_eq_true hc,decide_eq_true hx];rfl
theorem spD {n:Nat} {ts ps:List Value} (hc:ckN n ts n ps=0):pg0.se n ts n ps=0∧pg0.sv n ts n ps=mxN ts ps (n - 1):= ⟨if_pos hc,if_pos hc⟩
end
end Go.Proofs.YtdnmkehncpfnnaaGreat.L
