import Derived.Test.YtamcpiicmfielaaGreatZV1
import Derived.Lib.Builder
import Derived.Lib.UnsafeStr
import Derived.Laws.Externs
import Derived.RangeFuncSeq
import Derived.Scope
set_option linter.unusedVariables false
set_option linter.unusedSimpArgs false
namespace Go.V
open Go Go.RowKit
section
variable {R : Type} {P : Program} {ro : Option Nat} {T : List AV} {o : Oper} {H : Hp} {lo : Nat} {k : Kn R} {r : R}
theorem step_append {E:Env} {c:Call} (U:o.op= .call c) (O:c.callee= .builtin .append) (h:FT P lo T c.args.toList c.argTypes.toList H k=some r):bm P ro T o H (fm E T H c) lo k r:=by
 unfold FT at h
 split at h
 ·rename_i s x ts tx ha Z
  have ez:fm E T H c= .some false (tid true (aD T s) ++ tid false (aD T x)):=by
   unfold fm
   grind
  rw [ez]
  cases hint:yI P tx
  case true=>rw [hint,cond_true] at h;exact afc U O ha Z hint h
  rw [hint,cond_false] at h
  unfold Kw at h
  split at h
  ·rename_i e ev
   have a1:=wx ev
   simp only [Bool.cond_eq_ite] at h
   split at h
   ·rename_i dy
    rw [Bool.and_eq_true] at dy
    obtain ⟨aE,a7⟩:=dy
    obtain ⟨cx,n,h,e5,a6⟩:=PV h
    unfold Kx at h
    simp only [Bool.cond_eq_ite] at h
    split at h
    ·-- to nil
     rename_i M
     have b2:∀ j,(j,true) ∈ tid true (aD T s)→j < H.length:=fun j J=>by rw [M] at J;simp [tid] at J
     unfold Kt at h
     simp only [Bool.cond_eq_ite] at h
     split at h
     ·rename_i G
      have G:=of_decide_eq_true G
      subst G
      exact Ga U O ha Z a1 aE a7 h a6 b2 (fun {D α B w u} I=>by rw [M] at I;exact ⟨none,0,0,I,Nat.le_refl _⟩)
     ·rename_i G
      have G:n≠0:=fun e=>G (decide_eq_true e)
      split at h
      ·rename_i b3
       split at h
       ·rename_i c' bx
        obtain ⟨b0,dx⟩:=xv bx (Nat.zero_le _)
        refine F9 (m:=0) U O ha Z a1 aE a7 (c':=c') (cx:=cx) (by grind) G (by grind) a6 (by grind) b2 (fun {B0 w0 D α ch w u} ct b6 I=> ?_)
        rw [M] at I
        exact ⟨none,0, [], [],I,rfl,by simp,by rw [b0];rfl,rfl,fun w2 _=>by rw [show u= .slice none 0 0 from I];exact rF w2⟩
       ·cases h
      ·cases h
    ·-- to a slice of its own
     rename_i fl eR i off len M
     split at h
     ·rename_i b4
      rw [beq_iff_eq] at b4
      subst b4
      unfold Ku at h
      simp only [Bool.cond_eq_ite] at h
      split at h
      ·rename_i ab ty st b5
       have et:=(List.getElem?_eq_some_iff.1 b5).1
       have ec:∀ j,(j,true) ∈ tid true (aD T s)→j < H.length:=fun j J=>by rw [M] at J;simp [tid] at J;omega
       split at h
       ·rename_i c7
        simp only [Bool.and_eq_true,decide_eq_true_eq,beq_iff_eq] at c7
        obtain ⟨⟨⟨⟨⟨rfl,rfl⟩,rfl⟩,eb⟩,b3⟩,eu⟩:=c7
        split at h
        ·rename_i c' bx
         obtain ⟨b0,dx⟩:=xv bx eb
         split at h
         ·rename_i b1
          subst b1
          split at h
          ·rename_i G
           have G:=of_decide_eq_true G
           subst G
           refine Ga U O ha Z a1 aE a7 h a6 ec (fun {D α B w u} I=> ?_)
           rw [M] at I
           obtain ⟨_,cap,eL,bD,b7,_⟩:=I
           grind
          ·rename_i G
           have G:n≠0:=fun e=>G (decide_eq_true e)
           refine F9 (m:=len) U O ha Z a1 aE a7 (c':=c') (cx:=cx) b3 G h a6 (by grind) ec (fun {B0 w0 D α ch w u} ct b6 I=> ?_)
           rw [M] at I
           obtain ⟨eg,cap,eL,bD,b7,b1,c0⟩:=I
           have ed:ch i=some (.row ab ty .live):=(ct i true (by rw [M];simp [tid]) et).trans b5
           obtain ⟨cs,fr,e1,e2,e3,e4,c5⟩:=iB b6 eg ed rfl
           have en:=aj.len c5
           rw [List.length_take,Array.length_toList,ao.e8] at en
           have ea:((cs.toList.take ab.len).take (len*P.cellsOf ty)).length=len*P.cellsOf ty:=by
            grind
           refine ⟨_,cap,(cs.toList.take ab.len).take (len*P.cellsOf ty),ab.a8.take (len*P.cellsOf ty),bD,b1 rfl,ea,b0,aj.take c5 _,fun w2 c4=> ?_⟩
           rw [bD]
           by_cases eo:len=0
           ·subst eo
            rw [rF w2]
            simp
           ·rcases c0 with c0 | ⟨rfl,c0⟩
            ·omega
            ·refine yA ea (fun j y J=> ?_) w2 c4
             rw [List.getElem?_take] at J
             split at J
             ·rw [List.getElem?_take] at J
              split at J
              ·rw [Array.getElem?_toList] at J
               rw [fR,mL e1,Nat.zero_add]
               exact J
              ·cases J
             ·cases J
         ·split at h
          ·cases h
          ·rename_i ep
           exact aeX U O ha Z a1 aE a7 b3 M b5 (fun h=>ep (decide_eq_true h)) eb eu bx h a6
        ·cases h
       ·cases h
      ·cases h
     ·cases h
    ·-- to a row that has no room
     rename_i fl eR m f M
     have b2:∀ j,(j,true) ∈ tid true (aD T s)→j < H.length:=fun j J=>by rw [M] at J;simp [tid] at J
     split at h
     ·rename_i b4
      rw [Bool.and_eq_true,beq_iff_eq] at b4
      obtain ⟨rfl,rfl⟩:=b4
      unfold Ks at h
      simp only [Bool.cond_eq_ite] at h
      split at h
      ·rename_i G
       have G:=of_decide_eq_true G
       subst G
       refine Ga U O ha Z a1 aE a7 h a6 b2 (fun {D α B w u} I=> ?_)
       rw [M] at I
       obtain ⟨A,cap,bD,b7,_⟩:=I
       grind
      ·rename_i G
       have G:n≠0:=fun e=>G (decide_eq_true e)
       split at h
       ·rename_i b3
        obtain ⟨ab,c6,h⟩:=Px h
        ·split at h
         ·rename_i c' bx
          have eh:ab.len=m*P.cellsOf e:=by rw [← ao.e8,FD c6,Dw]
          obtain ⟨b0,dx⟩:=xv bx (by omega)
          refine F9 (m:=m) U O ha Z a1 aE a7 (c':=c') (cx:=cx) b3 G h a6 (by grind) b2 (fun {B0 w0 D α ch w u} ct b6 I=> ?_)
          rw [M] at I
          obtain ⟨eN,c3⟩:=PA c6 I
          obtain ⟨A,cap,bD,b7,b1,_⟩:=I
          refine ⟨A,cap,eN,ab.a8.take (m*P.cellsOf e),bD,b1 rfl,c3.len,b0, ?_,fun w2 c4=>c3.cells w2 c4⟩
          rw [List.take_of_length_le (by rw [ao.e8,eh];grind)]
          exact c3.rel
         ·cases h
       ·cases h
     ·cases h
    ·cases h
   ·cases h
  ·cases h
 ·cases h
theorem wA {v:AV} {b:bQ} {l:List (Nat×Bool)} (I:k v (H ++ [b])=some r) (U:∀ m,(m,true) ∉ l) (M:∀ c,o.op≠ .defer c) (J:b.isLive=true)
  (O:∀ (B0:Nat→Prop) (w0:World) (h:Hf) (D:Nat→Prop) (α:Nat→Nat×Nat) (a:Act) (w:World),(∀ m b,(m,b) ∈ l→m < H.length→h m=H[m]?)→Ok P B0 w0 D α h w→(∀ x ∈ o.op.operands,(aD T x).Rel P α (Own B0 D α h) w D (a.eval x))→
   ∃ (w1:World) (G:Obj) (sz:Nat) (x:Value),bw w.heap.size w w1∧(∀ ds,G≠ .deferred ds)∧(execOp a.eval o).run P w= .ok (.value x) (w1.alloc G)∧
    (∀ D' α' B' w',eZ D D' α α' (Own B0 D α h) B' w w'→w'.heap[w1.heap.size]? =some G→cP P α' B' w' D' b (w1.heap.size,sz))∧
    (∀ D' α' B' w',D' H.length→α' H.length=(w1.heap.size,sz)→v.Rel P α' B' w' D' x)):
  bm P ro T o H (.some false l) lo k r:=
 ⟨v,_,I,fun Z m ab=>List.getElem?_append_left (by omega),fun B0 w0=>DG (fun m h=>absurd h (U m)) M J (O B0 w0)⟩
theorem FE {D:Nat→Prop} {α:Nat→Nat×Nat} {B:Nat→Prop} {w:World} {c:ao} {cs:Array Value} {e:TypeId} {b sz:Nat} (M:w.heap[b]? =some (.cells cs e)) (J:cs.size=sz) (G:aj P α B w c.a8 D cs.toList):cP P α B w D (.row c e .live) (b,sz):=by
 have I:=aj.len G
 rw [Array.length_toList,ao.e8] at I
 refine .inr ⟨cs,(0,0),M,J,fun _ i _=>by simp,by omega, ?_⟩
 rw [List.take_of_length_le (by grind)]
 exact G
theorem NU (I:Option IntKind) (l:List AV):(dC I l).a8=l:=by
 unfold dC
 split
 ·split
  ·rename_i zs G;exact (rr G).symm
  ·rfl
 ·rfl
theorem aeW {G:TypeId} (M:o.op= .alloc G) (h:FR P G H k=some r):bm P ro T o H (.some false []) lo k r:=by
 unfold FR at h
 split at h
 ·rename_i l J
  obtain ⟨i,z,hi,U,rfl,a7,_⟩:=qS J
  refine wA h (fun m h=>by simp at h) (fun c h=>by grind) rfl (fun B0 w0 a1 D α a w a6 ab aE=> ?_)
  refine ⟨w, .cells z.cells G,z.cells.size, .pointer (some ⟨w.heap.size,0,none⟩),bw.refl _ _,fun ds=>by simp, ?_,fun D' α' B' w' _ O=>FE O rfl ?_,fun D' α' B' w' I Z=> ⟨I,by rw [Z]⟩⟩
  ·unfold execOp
   rw [M]
   simp [Instr.alloc,zeroValue,typeInfo,hi,U,newVar,newRow,Sem.run_bind,Result.andThen]
  ·have:(Ig P G (z.cells.toList.map .val)).a8=z.cells.toList.map .val:=by
    unfold Ig
    split
    ·exact NU _ _
    ·rfl
   rw [this]
   exact aj.vals _
 ·cases h
theorem ae0 {G:TypeId} {x:Operand} (I:o.op= .box G x) (h:FW G (aD T x) H k=some r):bm P ro T o H (.some false []) lo k r:=by
 unfold FW at h
 split at h
 ·rename_i l U
  simp only [Bool.cond_eq_ite] at h
  split at h
  ·refine wA h (fun m h=>by simp at h) (fun c h=>by grind) rfl (fun B0 w0 a6 D α a w a7 a1 M=> ?_)
   have ab:=M x (by rw [I];simp [Op.operands])
   refine ⟨w, .cells (a.eval x).cells G,(a.eval x).cells.size, .pointer (some ⟨w.heap.size,0,none⟩),bw.refl _ _,fun ds=>by simp, ?_,fun D' α' B' w' O Z=>FE Z rfl (CQ U (AV.Rel.mono _ _ O ab)),fun D' α' B' w' J aE=> ⟨J,by rw [aE]⟩⟩
   unfold execOp;rw [I];rfl
  ·cases h
 ·cases h
end
end Go.V
namespace Go.V
open Go Go.RowKit
theorem L5 (off:Nat):∀ (l:List Value) (i:Nat) (cs:Array Value),off+i+l.length≤cs.size→((l.zipIdx i).foldl (fun cs (p:Value×Nat)=>cs.setIfInBounds (off+p.2) p.1) cs).toList=cs.toList.take (off+i) ++ l ++ cs.toList.drop (off+i+l.length)
 | [],i,cs,h=>by simp
 | v :: l,i,cs,h=>by
  rw [List.length_cons] at h
  rw [List.zipIdx_cons,List.foldl_cons,L5 off l (i+1) _ (by grind),Array.toList_setIfInBounds]
  have G:off+i < cs.toList.length:=by grind
  have e1:(cs.toList.set (off+i) v).take (off+(i+1))=cs.toList.take (off+i) ++ [v]:=by
   rw [← Nat.add_assoc,List.take_add_one,List.take_set_of_le (Nat.le_refl _),List.getElem?_set_self G]
   rfl
  have I:(cs.toList.set (off+i) v).drop (off+(i+1)+l.length)=cs.toList.drop (off+i+(v :: l).length):=by
   rw [List.drop_set_of_lt (by omega),List.length_cons]
   grind
  grind
section
variable {P : Program} {D : Nat → Prop} {α : Nat → Nat × Nat} {B : Nat → Prop} {w : World}
def tr (P:Program) (α:Nat→Nat×Nat) (B:Nat→Prop) (w:World) (D:Nat→Prop):List (Nat×AV)→List (Nat×Value)→Prop
 | [],G=>G= []
 | p :: ps,G=>∃ y zs,G=(p.1,y) :: zs∧p.2.Rel P α B w D y∧tr P α B w D ps zs
theorem Eo {T:List AV} {a:Act} :∀ (l:List (Nat×Operand)),(∀ p ∈ l,(aD T p.2).Rel P α B w D (a.eval p.2))→tr P α B w D (l.map fun p=>(p.1,aD T p.2)) (l.map fun p=>(p.1,a.eval p.2))
 | [],_=>rfl
 | p :: l,h=> ⟨_,_,rfl,h p List.mem_cons_self,Eo l (fun q G=>h q (List.mem_cons_of_mem _ G))⟩
theorem yy {aE place':Nat→Option (Nat×Nat)} (bD:∀ i x,aE i=some x→place' i=some x):∀ (ps:List (Nat×AV)) (cells:List AV) {l:List AV},oo aE cells ps=some l→∀ (J:List (Nat×Value)) (cs:Array Value),tr P α B w D ps J→aj P α B w cells D cs.toList→∃ G,Instr.fill place' cs J=some G∧aj P α B w l D G.toList∧G.size=cs.size
 | [],cells,l,h,J,cs,M,I=>by cases h;rw [show J= [] from M];exact ⟨cs,rfl,I,rfl⟩
 | (i,v) :: ps,cells,l,h,J,cs,M,I=>by
  obtain ⟨y,zs,rfl,a6,a7⟩:=M
  unfold oo at h
  split at h
  ·rename_i off sz ch b5 b0
   simp only [Bool.cond_eq_ite] at h
   split at h
   ·rename_i O
    rw [Bool.and_eq_true,Bool.and_eq_true,beq_iff_eq,decide_eq_true_eq] at O
    obtain ⟨⟨b7,b3⟩,b4⟩:=O
    have ab:=CQ b0 a6
    have Z:=aj.len ab
    rw [Array.length_toList] at Z
    have bx:=aj.len I
    rw [Array.length_toList] at bx
    have b2:=L5 off y.cells.toList 0 cs (by grind)
    have U:(y.cells.zipIdx.foldl (fun cs (p:Value×Nat)=>cs.setIfInBounds (off+p.2) p.1) cs).toList=cs.toList.take off ++ y.cells.toList ++ cs.toList.drop (off+y.cells.size):=by
     rw [← Array.foldl_toList,Array.toList_zipIdx]
     grind
    obtain ⟨G,e1,a1,b1⟩:=yy bD ps _ h zs (y.cells.zipIdx.foldl (fun cs (p:Value×Nat)=>cs.setIfInBounds (off+p.2) p.1) cs) a7 (by
     rw [U,Z]
     exact aj.append (aj.append (aj.take I _) ab) (aj.drop I _))
    have b6:(y.cells.zipIdx.foldl (fun cs (p:Value×Nat)=>cs.setIfInBounds (off+p.2) p.1) cs).size=cs.size:=by
     have:=congrArg List.length U
     grind
    refine ⟨G, ?_,a1,by grind⟩
    unfold Instr.fill
    grind
   ·cases h
  ·cases h
end
section
variable {R : Type} {P : Program} {ro : Option Nat} {T : List AV} {o : Oper} {H : Hp} {lo : Nat} {k : Kn R} {r : R}
theorem run_places {w:World} :∀ (G:List Field),G.all (fun f=>(P.info? f.type).isSome)=true→(G.mapM fun f=>do pure (f.offset,← sizeOf f.type):Sem (List (Nat×Nat))).run P w= .ok (G.map fun f=>(f.offset,P.cellsOf f.type)) w
 | [],_=>rfl
 | f :: G,h=>by
  rw [List.all_cons,Bool.and_eq_true] at h
  obtain ⟨i,hi⟩:=Option.isSome_iff_exists.1 h.1
  rw [List.mapM_cons]
  simp only [Sem.run_bind,run_sizeOf w hi,Result.andThen,Sem.run_pure,run_places G h.2,List.map_cons]
theorem yx {G:Nat→Option (Nat×Nat)} {k:List AV→Option R} {r:R} :∀ (ps:List (Nat×AV)) (cells:List AV),rE G cells ps k=some r→∃ l,oo G cells ps=some l∧k l=some r
 | [],cells,h=> ⟨cells,rfl,h⟩
 | (i,v) :: ps,cells,h=>by
  unfold rE at h
  unfold oo
  split at h
  ·rename_i off sz l I J
   first | rw [I,J] | skip
   simp only [Bool.cond_eq_ite] at h ⊢
   split at h
   ·rename_i M
    rw [if_pos M]
    exact yx ps _ h
   ·cases h
  ·cases h
theorem Uq {t:TypeId} {M:List (Nat×AV)} (h:Aa P t M H k=some r):∃ l,CK P t M=some l∧k (.agg l) H=some r:=by
 unfold Aa at h
 unfold CK
 split at h
 ·rename_i z O G I
  first | rw [G,I] | skip
  simp only [Bool.cond_eq_ite] at h ⊢
  split at h
  ·rename_i J
   rw [if_pos J]
   exact yx _ _ h
  ·cases h
 ·rename_i z n e G I
  first | rw [G,I] | skip
  simp only [Bool.cond_eq_ite] at h ⊢
  split at h
  ·rename_i J
   rw [if_pos J]
   exact yx _ _ h
  ·cases h
 ·cases h
theorem ae1 {t:TypeId} {I:Array (Nat×Operand)} (O:o.op= .build t I) (h:Aa P t (rD T I) H k=some r):bm P ro T o H (.some false []) lo k r:=by
 obtain ⟨l,G,h⟩:=Uq h
 refine fk h (fun c h=>by grind) (fun D α B a w bx=> ?_)
 have a7:tr P α B w D (rD T I) (I.toList.map fun p=>(p.1,a.eval p.2)):=Eo _ (fun p b3=>bx p.2 (by
  rw [O]
  simp only [Op.operands,List.mem_toArray]
  grind))
 have b4:(I.map fun (x:Nat×Operand)=>(x.1,a.eval x.2)).toList=I.toList.map fun p=>(p.1,a.eval p.2):=Array.toList_map
 unfold CK at G
 simp only [Bool.cond_eq_ite] at G
 split at G
 ·rename_i z a6 ab U
  obtain ⟨i,a1,hi,aE,rfl,b2,_⟩:=qS ab
  split at G
  ·rename_i bD
   obtain ⟨J,e1,M,_⟩:=yy (P:=P) (place':=fun i=>((a6.toList.map fun f=>(f.offset,P.cellsOf f.type)).toArray)[i]?) (fun i x Z=>by
    unfold fieldPlace at Z
    grind) _ _ G _ a1.cells a7 (aj.vals _)
   refine ⟨.agg J, ?_,J,rfl,M⟩
   unfold execOp
   rw [O]
   simp only [Instr.build,Sem.run_bind,zeroValue,typeInfo,run_program,hi,Result.andThen,Sem.run_pure,aE,run_underlying U,Array.mapM_eq_mapM_toList,Sem.run_map]
   erw [run_places a6.toList bD]
   simp_all
  ·cases G
 ·rename_i z n e ab U
  obtain ⟨i,a1,hi,aE,rfl,b2,_⟩:=qS ab
  split at G
  ·rename_i b1
   obtain ⟨b5,b0⟩:=Option.isSome_iff_exists.1 b1
   obtain ⟨J,e1,M,_⟩:=yy (P:=P) (place':=fun i=>some (i*P.cellsOf e,P.cellsOf e)) (fun i x Z=>Z) _ _ G _ a1.cells a7 (aj.vals _)
   refine ⟨.agg J, ?_,J,rfl,M⟩
   unfold execOp
   rw [O]
   simp only [Instr.build,Sem.run_bind,zeroValue,typeInfo,run_program,hi,Result.andThen,Sem.run_pure,aE,run_underlying U,run_sizeOf w b0]
   simp_all
  ·cases G
 ·cases G
end
end Go.V
namespace Go.V
open Go Go.RowKit
theorem Ec (z:Array Value):∀ n,(madeCells z (n*z.size)).toList=(List.replicate n z.toList).flatten
 | 0=>by simp [madeCells]
 | n+1=>by
  have G:=Ec z n
  unfold madeCells at G ⊢
  rw [Array.toList_map,Array.toList_range] at G ⊢
  rw [Nat.succ_mul,List.range_add,List.map_append,G,List.replicate_succ',List.flatten_append,List.flatten_singleton]
  congr 1
  rw [List.map_map]
  apply List.ext_getElem?
  intro i
  rw [List.getElem?_map]
  by_cases hi:i < z.size
  ·rw [List.getElem?_range hi,Array.getElem?_toList]
   simp only [Option.map_some,Function.comp]
   rw [Nat.add_comm,Nat.add_mul_mod_self_right,Nat.mod_eq_of_lt hi,Array.getElem?_eq_getElem hi,getElem!_pos z i hi]
  grind
section
variable {R : Type} {P : Program} {ro : Option Nat} {T : List AV} {o : Oper} {H : Hp} {lo : Nat} {k : Kn R} {r : R}
theorem Rf {D:Nat→Prop} {α:Nat→Nat×Nat} {B:Nat→Prop} {w:World} (n:Nat) (z:List Value):aj P α B w (List.replicate n (z.map AV.val)).flatten D (List.replicate n z).flatten:=by
 have:(List.replicate n (z.map AV.val)).flatten=((List.replicate n z).flatten).map AV.val:=by simp_all
 rw [this]
 exact aj.vals _
theorem Up {t:TypeId} {n:Nat} {G:List (Nat×AV)} (h:Ab P t n G H k=some r):∃ e l,kU P t=some e∧CL P e n G=some l∧k (.sl true e H.length 0 n) (H ++ [.row (dC (intKind P e) l) e .live])=some r:=by
 unfold Ab at h
 split at h
 ·rename_i e M
  refine ⟨e, ?_⟩
  unfold CL
  split at h
  ·rename_i z I
   first | rw [I] | skip
   simp only [Bool.cond_eq_ite] at h ⊢
   split at h
   ·rename_i J
    rw [if_pos J]
    obtain ⟨l,O,U⟩:=yx _ _ h
    grind
   ·cases h
  ·cases h
 ·cases h
theorem ae2 {t:TypeId} {n:Nat} {J:Array (Nat×Operand)} (aE:o.op= .buildSlice t n J) (h:Ab P t n (rD T J) H k=some r):bm P ro T o H (.some false []) lo k r:=by
 obtain ⟨e,l,b6,I,h⟩:=Up h
 have b5:=wx b6
 refine wA h (fun m h=>by simp at h) (fun c h=>by grind) rfl (fun B0 w0 b1 D α a w c4 c3 b0=> ?_)
 have b4:tr P α (Own B0 D α b1) w D (rD T J) (J.toList.map fun p=>(p.1,a.eval p.2)):=Eo _ (fun p c6=>b0 p.2 (by
  rw [aE]
  simp only [Op.operands,List.mem_toArray]
  grind))
 have a1:(J.map fun (x:Nat×Operand)=>(x.1,a.eval x.2)).toList=J.toList.map fun p=>(p.1,a.eval p.2):=Array.toList_map
 unfold CL at I
 simp only [Bool.cond_eq_ite] at I
 split at I
 ·rename_i z ct
  obtain ⟨i,G,hi,c0,rfl,c7,_⟩:=qS ct
  split at I
  ·rename_i ab
   rw [Bool.and_eq_true,Bool.and_eq_true,decide_eq_true_eq,beq_iff_eq,List.length_map,Array.length_toList] at ab
   obtain ⟨⟨_,c5⟩,U⟩:=ab
   obtain ⟨Z,e1,a7,bx⟩:=yy (P:=P) (place':=fun i=>some (i*P.cellsOf e,P.cellsOf e)) (fun i x ch=>ch) _ _ I _ (madeCells G.cells (n*G.cells.size)) b4 (by rw [Ec];exact Rf n _)
   refine ⟨w, .cells Z e,Z.size, .slice (some ⟨w.heap.size,0,none⟩) n n,bw.refl _ _,fun ds=>by simp, ?_,fun D' α' B' w' b2 b7=>FE b7 rfl (by rw [NU];exact aj.mono _ _ b2 a7),fun D' α' B' w' bD a6=> ⟨bD,n,0,by rw [a6],Nat.le_refl _,fun _=>rfl, .inr ⟨rfl, ?_⟩⟩⟩
   ·unfold execOp
    rw [aE]
    have b3:¬ (n*P.cellsOf e > 2 ^ 24):=by grind
    simp only [Instr.buildSlice,Sem.run_bind,run_underlying b5,Result.andThen,run_sizeOf w hi,b3,if_false,Sem.run_pure]
    by_cases M:n*P.cellsOf e=0
    ·have O:madeCells G.cells (n*G.cells.size)=(Array.range (n*P.cellsOf e)).map ((#[]:Array Value)[· % (#[]:Array Value).size]!):=by
      rw [U,M];simp [madeCells,Array.range_zero']
     rw [O] at e1
     simp only [M,if_true,Sem.run_bind,Sem.run_pure,Result.andThen]
     rw [M] at e1
     erw [a1,e1]
     rfl
    ·have O:madeCells G.cells (n*G.cells.size)=(Array.range (n*P.cellsOf e)).map (fun x=>G.cells[x % G.cells.size]!):=by
      rw [← U];rfl
     rw [O] at e1
     simp only [M,if_false,Sem.run_bind,zeroValue,typeInfo,run_program,hi,Result.andThen,Sem.run_pure,c0]
     erw [a1,e1]
     rfl
   ·rw [a6,Nat.zero_add,bx,← U,size_madeCells];grind
  ·cases I
 ·cases I
theorem afV {β:Type} (z:List β) (l c sz:Nat) (G:z.length=sz) (h:l≤c):(List.replicate c z).flatten.take (l*sz)=(List.replicate l z).flatten:=by
 obtain ⟨d,rfl⟩:∃ d,c=l+d:= ⟨c - l,by omega⟩
 rw [← List.replicate_append_replicate,List.flatten_append]
 simp_all
theorem afh {t:TypeId} {l c:Operand} (Z:o.op= .makeSlice t l c) (h:Ed P H t (aD T l) (aD T c) k=some r):bm P ro T o H (.some false []) lo k r:=by
 unfold Ed at h
 split at h
 ·rename_i e b4 J b3 G c7 c4 c3
  have c6:=wx c7
  simp only [Bool.cond_eq_ite] at h
  split at h
  ·rename_i a7
   simp only [Bool.and_eq_true,decide_eq_true_eq] at a7
   obtain ⟨⟨⟨b7,ch⟩,ed⟩,ct⟩:=a7
   split at h
   ·rename_i z _ dy
    obtain ⟨i,M,hi,ea,rfl,b0,eh⟩:=qS dy
    split at h
    ·rename_i ab I
     have ec:M.cells.size=P.cellsOf e∧ab.a8=(List.replicate J.toNat (M.cells.toList.map AV.val)).flatten:=by
      split at I
      ·rename_i ev ez et b1
       split at I
       ·rename_i O
        rw [Bool.and_eq_true,decide_eq_true_eq,beq_iff_eq] at O
        obtain ⟨rfl,en⟩:=O
        cases I
        rw [b1]
        have eu:M.cells.size=1:=by
         have:=congrArg List.length b1
         grind
        refine ⟨?_, ?_⟩
        ·grind
        ·simp [ao.a8,List.map_replicate]
       ·cases I
      ·split at I
       ·rename_i bD
        cases I
        rw [beq_iff_eq,List.length_map,Array.length_toList] at bD
        exact ⟨bD,rfl⟩
       ·cases I
     obtain ⟨b2,a6⟩:=ec
     refine wA h (fun m h=>by simp at h) (fun c h=>by grind) rfl (fun B0 w0 eo D α a w ep eg a1=> ?_)
     have e1:=a1 l (by rw [Z];simp [Op.operands])
     have aE:=a1 c (by rw [Z];simp [Op.operands])
     rw [c4] at e1
     rw [c3] at aE
     have b5:a.eval l= .int b4 J:=e1
     have b6:a.eval c= .int b3 G:=aE
     have U:J.toNat≤G.toNat:=by omega
     refine ⟨w, .cells (madeCells M.cells (G.toNat*i.size)) e,G.toNat*P.cellsOf e, .slice (some ⟨w.heap.size,0,none⟩) J.toNat G.toNat,bw.refl _ _,fun ds=>by simp, ?_,fun D' α' B' w' O dx=> ?_,fun D' α' B' w' c0 eb=> ⟨c0,G.toNat,0,by rw [eb],U,(fun h=>by cases h), .inr ⟨rfl,by grind⟩⟩⟩
     ·unfold execOp
      rw [Z]
      simp only [b5,b6,Sem.run_bind,run_make w t e i M c6 hi ea b4 b3 J G b7 ch (by grind) ct,Result.andThen,Sem.run_pure]
     ·have c5:(madeCells M.cells (G.toNat*i.size)).size=G.toNat*P.cellsOf e:=by rw [size_madeCells,b0]
      have bx:ab.len=J.toNat*P.cellsOf e:=by
       rw [← ao.e8,a6];simp [b2]
      refine .inr ⟨_,_,dx,c5,fun _ j _=>by simp,by rw [bx];exact Nat.mul_le_mul_right _ U, ?_⟩
      rw [bx,← b0,← b2,Ec,afV _ _ _ _ (by grind) U,a6]
      exact Rf _ _
    ·cases h
   ·cases h
  ·cases h
 ·cases h
theorem YQ (w:World) (cs:Array Value) (e:TypeId) (n:Nat):(w.alloc (.cells cs e)).freeze ⟨w.heap.size,n,none⟩ 1=w.alloc (.cells cs e (n,n+1)):=by
 unfold World.freeze World.alloc
 simp only [Nat.one_ne_zero,if_false]
 congr 1
 grind
theorem run_mark {b:Nat} {w:World} {c:Array Value} {e:TypeId} {fr:Nat×Nat} (h:w.heap[b]? =some (.cells c e fr)):(markStringish ⟨b,0,none⟩).run P w= .ok () (w.freeze ⟨b,c.size,none⟩ 1):=by
 simp [markStringish,World.shape?,h,Sem.run_bind,Result.andThen]
theorem L6:∀ (G:List Int) (s:List UInt8),(G.foldl (fun r n=>r.push (UInt8.ofNat n.toNat)) (⟨s.toArray⟩:ByteArray))= ⟨(s ++ G.map fun z=>UInt8.ofNat z.toNat).toArray⟩
 | [],s=>by simp
 | n :: G,s=>by
  rw [List.foldl_cons]
  have:(⟨s.toArray⟩:ByteArray).push (UInt8.ofNat n.toNat)= ⟨(s ++ [UInt8.ofNat n.toNat]).toArray⟩:=by
   unfold ByteArray.push;simp
  rw [this,L6 G]
  simp
theorem abM {K:ao→Nat→Option R} {t:TypeId} {v:AV} (h:sF P H t v K=some r) (I:Nx v=true) {D:Nat→Prop} {α:Nat→Nat×Nat} {B:Nat→Prop} {w:World} {u:Value} (G:v.Rel P α B w D u):∃ A m cap,u= .slice A m cap:=by
 unfold sF at h
 split at h
 ·exact ⟨_,_,_,G⟩
 ·cases I
 ·obtain ⟨_,cap,J,rfl,_⟩:=G;grind
 ·obtain ⟨A,cap,rfl,_⟩:=G;grind
 ·cases h
theorem ae5 {s d:TypeId} {x:Operand} (dx:o.op= .convert s d x) (h:CZ P H s d (aD T x) k=some r):bm P ro T o H (.some false (tid false (aD T x))) lo k r:=by
 have a1:∀ c,o.op≠ .defer c:=fun c h=>by grind
 have bx:∀ {a:Act} {w w':World} {y:Value},(convert s d (a.eval x)).run P w= .ok y w'→(execOp a.eval o).run P w= .ok (.value y) w':=by
  intro a w w' y eN
  unfold execOp
  simp_all
 have a7:x ∈ o.op.operands:=by rw [dx];simp [Op.operands]
 unfold CZ at h
 simp only [Bool.cond_eq_ite] at h
 split at h
 ·rename_i eR b6 M J
  split at h
  ·rename_i en n O
   have go:k (.val (.int b6 (b6.wrap n))) H=some r→bm P ro T o H (.some false (tid false (aD T x))) lo k r:=by
    intro b3
    refine dO b3 (fP _) a1 (fun B0 w0 bD D α a w aE ab I=> ?_)
    have e1:=I x a7
    rw [O] at e1
    have U:a.eval x= .int en n:=e1
    refine ⟨_,bx ?_,rfl⟩
    rw [U]
    unfold convert
    simp only [Sem.run_bind,run_underlying M,run_underlying J,Result.andThen,Conv.intToInt,Sem.run_pure]
   split at h
   ·split at h
    ·rename_i c0;exact go (by rw [Rh c0];exact h)
    ·cases h
   ·exact go h
  ·cases h
 ·rename_i M J
  split at h
  ·rename_i st O
   refine dO h (fP _) a1 (fun B0 w0 bD D α a w aE ab I=> ?_)
   have e1:=I x a7
   rw [O] at e1 ⊢
   have U:a.eval x= .string st:=e1
   refine ⟨_,bx ?_,rfl⟩
   rw [U]
   unfold convert
   simp only [Sem.run_bind,run_underlying M,run_underlying J,Result.andThen,Sem.run_pure]
  ·cases h
 ·rename_i e M J
  split at h
  ·rename_i G
   rw [Bool.and_eq_true,Bool.and_eq_true,beq_iff_eq,beq_iff_eq] at G
   obtain ⟨G,c7⟩:=G
   have b1:=DR G.1
   have eL:=fun {D α B w u} ea=>abM h c7 (D:=D) (α:=α) (B:=B) (w:=w) (u:=u) ea
   obtain ⟨c,n,h,et,ed⟩:=PV h
   split at h
   ·rename_i zs eg
    refine dO h (fP _) a1 (fun B0 w0 bD D α a w aE ab I=> ?_)
    have e1:=I x a7
    obtain ⟨eo,b0⟩:=ed aE ab e1
    refine ⟨.string (ofBytes zs),bx ?_,rfl⟩
    obtain ⟨ch,eu⟩:=DO eg
    have ez:eo=zs.map (.int .u8):=by
     have:=b0.rel
     rw [ch,show zs.map (fun z=>AV.val (.int .u8 z))=(zs.map (Value.int .u8)).map AV.val by simp_all] at this
     exact aj.y7 this
    have Z:=b0.cells w rfl
    have b4:=b0.lenOf w
    have dy:∀ a6:List Int,a6.foldl (fun r n=>r.push (UInt8.ofNat n.toNat)) ByteArray.empty=ofBytes a6:=fun a6=>by
     have:=L6 a6 []
     rw [List.nil_append] at this
     exact this
    cases eb:a.eval x with
    | slice A m cap=>
     rw [eb] at b4 Z
     have c4:m=n:=by simpa [Builtin.lenOf,Sem.run_pure] using b4
     subst c4
     unfold convert
     simp only [Sem.run_bind,run_underlying M,run_underlying J,Result.andThen,run_underlying b1]
     cases A with
     | none=>
      have c5:zs= []:=by
       rw [G.2] at Z
       simp only [Builtin.firstCells,Sem.run_pure,Result.ok.injEq,and_true] at Z
       simp_all
      rw [c5]
      rfl
     | some b=>
      have c3:(loadCells b m).run P w= .ok (zs.map (Value.int .u8)).toArray w:=by
       rw [G.2] at Z
       simp only [Builtin.firstCells,Nat.mul_one] at Z
       grind
      rw [run_bytesToString w b m cap zs c3,dy]
    | string st=>grind
    | _=>grind
   ·cases h
  ·cases h
 ·rename_i e M J
  split at h
  ·rename_i st O
   split at h
   ·rename_i G
    rw [Bool.and_eq_true,beq_iff_eq,beq_iff_eq] at G
    have b1:=DR G.1
    rw [O]
    refine wA h (fun m h=>by simp [tid] at h) a1 rfl (fun B0 w0 bD D α a w aE ab I=> ?_)
    have e1:=I x a7
    rw [O] at e1
    have U:a.eval x= .string st:=e1
    have b2:=grownCap_ge w st.size 0 e
    have b5:((st.data.map fun b=>Value.int .u8 b.toNat) ++ Array.replicate (grownCap w st.size 0 e - st.size) (Value.int .u8 0)).size=grownCap w st.size 0 e:=by
     simp_all
    refine ⟨w.drew, .cells ((st.data.map fun b=>Value.int .u8 b.toNat) ++ Array.replicate (grownCap w st.size 0 e - st.size) (Value.int .u8 0)) e (grownCap w st.size 0 e,grownCap w st.size 0 e+1),grownCap w st.size 0 e, .slice (some ⟨w.heap.size,0,none⟩) st.size (grownCap w st.size 0 e),xx w,fun ds=>by simp,bx ?_,fun D' α' B' w' b3 ec=> ?_,fun D' α' B' w' b7 eh=> ⟨b7,_,0,by rw [eh];rfl,b2,(fun h=>by cases h), .inr ⟨rfl,by grind⟩⟩⟩
    ·rw [U]
     unfold convert
     simp only [Sem.run_bind,run_underlying M,run_underlying J,Result.andThen,run_underlying b1]
     have c6:=run_mark (P:=P) (w:=w.drew.alloc (.cells ((st.data.map fun b=>Value.int .u8 b.toNat) ++ Array.replicate (grownCap w st.size 0 e - st.size) (Value.int .u8 0)) e)) (b:=w.heap.size) (World.alloc_heap_new w.drew _)
     rw [b5] at c6
     have ct:=YQ w.drew ((st.data.map fun b=>Value.int .u8 b.toNat) ++ Array.replicate (grownCap w st.size 0 e - st.size) (Value.int .u8 0)) e (grownCap w st.size 0 e)
     rw [← ct]
     have ep:(Conv.stringToBytes e st).run P w=((markStringish ⟨w.heap.size,0,none⟩).run P (w.drew.alloc (.cells ((st.data.map fun b=>Value.int .u8 b.toNat) ++ Array.replicate (grownCap w st.size 0 e - st.size) (Value.int .u8 0)) e))).andThen fun _ w'=> .ok (.slice (some ⟨w.heap.size,0,none⟩) st.size (grownCap w st.size 0 e)) w':=by
      simp [Conv.stringToBytes,newRow,Question.forced,grownCap,Sem.run_bind,Result.andThen]
     simp_all
    ·refine .inr ⟨_,_,ec,b5,fun _ i hi=>by simp;omega,by show (dw st).length≤_;rw [xF];exact b2, ?_⟩
     have ev:(st.data.map fun b=>Value.int .u8 (b.toNat:Int)).toList=(dw st).map (Value.int .u8):=by simp [dw]
     have:(((st.data.map fun b=>Value.int .u8 b.toNat) ++ Array.replicate (grownCap w st.size 0 e - st.size) (Value.int .u8 0)).toList.take (ao.ints .u8 (dw st)).len)=(dw st).map (Value.int .u8):=by
      show List.take (dw st).length _=_
      grind
     rw [this]
     show aj P α' B' w' ((dw st).map fun z=>AV.val (.int .u8 z)) D' _
     rw [show (dw st).map (fun z=>AV.val (.int .u8 z))=((dw st).map (Value.int .u8)).map AV.val by simp_all]
     exact aj.vals _
   ·cases h
  ·cases h
 ·cases h
end
end Go.V
namespace Go.V
open Go Go.RowKit
section
variable {R : Type} {P : Program} {ro : Option Nat} {T : List AV} {o : Oper} {H : Hp} {lo : Nat} {k : Kn R} {r : R}
theorem aae {u:TypeId} {G:Nat} (J:P.cellsOf u≠0) (M:1≤G):liesAt P P.depth u G 0 u 1=true:=by
 have I:P.depth=(2*(P.types.size+Made.depth)+1)+1:=rfl
 rw [I]
 simp only [liesAt,Bool.or_eq_true]
 left
 rw [I]
 simp [rowAt,J,M,sameLayout]
theorem ae6 {s d:TypeId} {x:Operand} (bD:o.op= .convert s d x) (h:FZ P H s d (aD T x) k=some r):bm P ro T o H (.some false (tid false (aD T x))) lo k r:=by
 have b0:∀ c,o.op≠ .defer c:=fun c h=>by grind
 have b2:∀ {a:Act} {w w':World} {y:Value},(convert s d (a.eval x)).run P w= .ok y w'→(execOp a.eval o).run P w= .ok (.value y) w':=by
  intro a w w' y c4
  unfold execOp
  simp_all
 have b1:x ∈ o.op.operands:=by rw [bD];simp [Op.operands]
 unfold FZ at h
 split at h
 ·rename_i i off bx
  unfold Lg at h
  simp only [Bool.cond_eq_ite] at h
  split at h
  ·rename_i t a7 ab
   split at h
   ·rename_i j c ty st a1 I
    split at h
    ·rename_i J
     simp only [Bool.and_eq_true,Bool.not_eq_true',decide_eq_true_eq,beq_eq_false_iff_ne] at J
     obtain ⟨⟨b7,ch⟩,c0⟩:=J
     have a6:=(List.getElem?_eq_some_iff.1 I).1
     refine dO h (fP _) b0 (fun B0 w0 aE D α a w M U Z=> ?_)
     have G:=Z x b1
     rw [bx] at G M
     obtain ⟨hi,G⟩:=G
     have O:aE i=some (.row c ty st):=(M i false (by simp [tid]) a6).trans I
     obtain ⟨cs,fr,e1,b3,b4,b5,b6⟩:=iB U hi O (by grind)
     refine ⟨_,b2 ?_,hi,rfl⟩
     rw [G]
     exact Lib.run_to_unsafe w ⟨(α i).1,off,none⟩ a7 ab a1 ch (e:=ty) (cells:=cs.size) (by simp [World.shape?,e1]) (by grind)
    ·cases h
   ·cases h
  ·rename_i u a7 ab
   split at h
   ·rename_i j c ty st a1 I
    split at h
    ·rename_i J
     simp only [Bool.and_eq_true,Bool.not_eq_true',decide_eq_true_eq,beq_iff_eq,beq_eq_false_iff_ne] at J
     obtain ⟨⟨⟨⟨b7,rfl⟩,rfl⟩,ct⟩,c3⟩:=J
     have a6:=(List.getElem?_eq_some_iff.1 I).1
     refine dO h (fP _) b0 (fun B0 w0 aE D α a w M U Z=> ?_)
     have G:=Z x b1
     rw [bx] at G M
     obtain ⟨hi,G⟩:=G
     have O:aE i=some (.row c ty st):=(M i false (by simp [tid]) a6).trans I
     obtain ⟨cs,fr,e1,b3,b4,b5,b6⟩:=iB U hi O (by grind)
     refine ⟨_,b2 ?_,hi,rfl⟩
     rw [G]
     refine Lib.run_from_unsafe w ⟨(α i).1,0,none⟩ a7 ab a1 (e:=ty) (cells:=cs.size) (by simp [World.shape?,e1]) (aae (by omega) ?_)
     exact (Nat.one_le_div_iff ct).2 (by omega)
    ·cases h
   ·cases h
  ·cases h
 ·exact ae5 bD h
theorem ael {tp G:TypeId} {j:TypeInfo} {w:World} (a:Addr) (I:P.underlying tp=some (.pointer G)) (J:P.info? G=some j):(binOp .eql tp (.pointer (some a)) (.pointer (some a))).run P w= .ok (.bool true) w:=by
 have h:∀ d:Nat,(Op.equalIn (d+1) tp (.pointer (some a)) (.pointer (some a))).run P w= .ok true w:=fun d=>by
  simp [Op.equalIn,run_underlying I,sizeOf,typeInfo,J,run_sameAddr_same]
 simp only [binOp]
 simp [Op.equal,Op.maxDepth,h 9999]
theorem aeZ {O:BinOp} {t ty:TypeId} {x y:Operand} (I:o.op= .binOp O t x y ty) (h:FV P O t (aD T x) (aD T y) H k=some r):bm P ro T o H (.some false []) lo k r:=by
 have bx:∀ c,o.op≠ .defer c:=fun c h=>by grind
 unfold FV at h
 split at h
 ·rename_i i off j bD e1 aE
  have go:∀ {b:Bool},i=j→off=bD→k (.val (.bool b)) H=some r→(∀ (a:Addr) (w:World),(binOp O t (.pointer (some a)) (.pointer (some a))).run P w= .ok (.bool b) w)→bm P ro T o H (.some false []) lo k r:=by
   intro b hi a6 a1 a7
   subst hi a6
   refine dO a1 (fun m h=>by simp at h) bx (fun B0 w0 b2 D α a w b3 b1 ab=> ?_)
   have U:=ab x (by rw [I];simp [Op.operands])
   have Z:=ab y (by rw [I];simp [Op.operands])
   rw [e1] at U
   rw [aE] at Z
   exact ⟨.bool b,zW I U.2 Z.2 (Mn (fun b4 h=>by cases h) (fun h=>by cases h)) (a7 _ _),rfl⟩
  unfold OM at h
  simp only [Bool.cond_eq_ite] at h
  split at h
  ·rename_i b0 M
   split at h
   ·rename_i G
    simp only [Bool.and_eq_true,beq_iff_eq] at G
    obtain ⟨j,J⟩:=Option.isSome_iff_exists.1 G.2
    exact go G.1.1 G.1.2 h (fun a w=>ael a M J)
   ·cases h
  ·rename_i b0 M
   split at h
   ·rename_i G
    simp only [Bool.and_eq_true,beq_iff_eq] at G
    obtain ⟨j,J⟩:=Option.isSome_iff_exists.1 G.2
    exact go G.1.1 G.1.2 h (fun a w=>Lib.run_neq_ptr_same w a M J)
   ·cases h
  ·cases h
 ·exact aeY I h
theorem ae7 {c:Call} (M:o.op= .call c) (I:c.callee= .builtin .unsafeSliceData) (h:F0 P T o c.args.toList H k=some r):bm P ro T o H (.some false []) lo k r:=by
 have O:∀ c,o.op≠ .defer c:=fun c h=>by grind
 unfold F0 at h
 simp only [Bool.cond_eq_ite] at h
 split at h
 ·rename_i x bx
  split at h
  ·rename_i fl t i off len a6
   split at h
   ·cases h
   ·rename_i b4
    refine dO h (fun m h=>by simp at h) O (fun B0 w0 b2 D α a w b3 b1 aE=> ?_)
    have b5:x ∈ c.args:=Array.mem_toList_iff.1 (by grind)
    have G:=aE x (by rw [M];simp only [Op.operands,Call.operands,Array.mem_append];grind)
    rw [a6] at G
    obtain ⟨hi,cap,b6,Z,b0,_,ab⟩:=G
    have J:cap≠0:=by
     grind
    obtain ⟨rfl,_⟩:=ab.resolve_left J
    refine ⟨_, ?_,hi,rfl⟩
    obtain ⟨bD,U,ts⟩:=c
    simp only at I bx
    subst I
    have a1:U= #[x]:=by grind
    subst a1
    have a7:Array.map a.eval #[x]= #[a.eval x]:=by simp
    unfold execOp
    rw [M]
    simp only [resolve,Sem.run_bind,Sem.run_pure,Result.andThen,invoke,builtin,a7,Z,Lib.run_unsafeSliceData_row w ts o.type _ _ _ J]
  ·exact qH O h
  ·cases h
 ·cases h
theorem ab1 {B0:Nat→Prop} {w0:World} {D:Nat→Prop} {α:Nat→Nat×Nat} {h:Hf} {w w':World} (I:Ok P B0 w0 D α h w) {i:Nat} (hi:D i) {c:ao} {ty:TypeId} (aE:h i=some (.row c ty .live)) (dx:w'.heap.size=w.heap.size) (b1:∀ b,b≠(α i).1→w'.heap[b]? =w.heap[b]?)
  (c4:∀ B,B≤(α i).1→bw B w w') (c3:∀ cs fr,w.heap[(α i).1]? =some (.cells cs ty fr)→∃ bx,w'.heap[(α i).1]? =some (.cells cs ty bx)):
  Ok P B0 w0 D α (bh h i (some (.row c ty .froz))) w'∧bG D D α α (aP D α h) (aP D α (bh h i (some (.row c ty .froz)))) w w':=by
 have a7:aP D α h (α i).1:= ⟨i,_,hi,aE,rfl,rfl⟩
 have b2:∀ b,aP D α (bh h i (some (.row c ty .froz))) b→aP D α h b∧b≠(α i).1:=by
  rintro b ⟨j,b4,M,G,J,U⟩
  by_cases e:j=i
  ·subst e;rw [eV] at G;cases G;cases J
  ·rw [bS _ _ e] at G
   exact ⟨⟨j,b4,M,G,J,U⟩,fun ab=>e (I.inj j i b4 _ M hi G aE J rfl (U.trans ab))⟩
 have b0:bG D D α α (aP D α h) (aP D α (bh h i (some (.row c ty .froz)))) w w':= ⟨fun _ h=>h,fun _ _=>rfl,fun b o G J=> ⟨fun h=>J (b2 b h).1,(b1 b (fun e=>J (e ▸ a7))).trans G⟩⟩
 refine ⟨⟨fun j M=> ?_,I.below.trans (c4 _ (I.fresh i hi).1),fun b a6=> ?_,fun b a6 O=>I.sep b a6 (b2 b O).1,fun j M=>by rw [dx];exact I.fresh j M, ?_, ?_, ?_⟩,b0⟩
 ·by_cases e:j=i
  ·simp_all
  ·rw [bS _ _ e];exact I.lt j M
 ·have G:=I.cO b a6
  refine ⟨by grind,fun ds=> ?_⟩
  rw [b1 b (fun e=>I.sep b a6 (e ▸ a7))]
  exact G.2 ds
 ·intro a b b5 b6 ha hb G J U a1 bD
  have b7:∀ j k,bh h i (some (.row c ty .froz)) j=some k→k.isLive=true→j≠i:=by
   rintro j k b3 c6 rfl
   rw [eV] at b3
   cases b3
   cases c6
  have ch:=b7 a b5 G U
  have ct:=b7 b b6 J a1
  rw [bS _ _ ch] at G
  rw [bS _ _ ct] at J
  exact I.inj a b b5 b6 ha hb G J U a1 bD
 ·intro j k M G J O
  by_cases e:j=i
  ·subst e
   rcases O with O | O
   ·exact I.sep _ O a7
   grind
  ·rw [bS _ _ e] at G
   exact I.dc j k M G J (O.elim .inl (fun h=> .inr (b2 _ h).1))
 ·intro j k M G
  by_cases e:j=i
  ·subst e
   rw [eV] at G
   cases G
   rcases I.cM j _ hi aE with c5 | ⟨cs,fr,G,J,U,a1,bD⟩
   ·cases c5
   ·obtain ⟨bx,c0⟩:=c3 cs fr G
    exact .inr ⟨cs,bx,c0,J,(fun h=>by cases h),a1,aj.mono _ _ (b0.keeps B0) bD⟩
  ·rw [bS _ _ e] at G
   refine cP.mono (b0.keeps B0) (fun o c7 Z=>(b1 _ (fun ab=> ?_)).trans c7) (I.cM j k M G)
   rcases Z with Z | Z
   ·exact e (I.inj j i k _ M hi G aE Z rfl ab)
   ·exact I.dc j k M G Z (.inr (ab ▸ a7))
theorem PE {w:World} :∀ (l:List Int) (a:Addr) (G:ByteArray),(∀ z ∈ l,ai .u8 z=true)→(∀ (j:Nat) (z:Int),l[j]? =some z→w.cell? (a.add j)=some (.int .u8 z))→(loadBytes a G l.length).run P w= .ok ⟨G.data ++ (l.map fun z=>UInt8.ofNat z.toNat).toArray⟩ w
 | [],a,G,_,_=>by simp [loadBytes]
 | z :: l,a,G,J,h=>by
  have I:w.cell? a=some (.int .u8 z):=by
   have:=h 0 z rfl
   simpa [Addr.add] using this
  have U:=PE l (a.add 1) (G.push (UInt8.ofNat z.toNat)) (fun z M=>J z (List.mem_cons_of_mem _ M)) (fun j y O=>by
   have:=h (j+1) y (by grind)
   have e:(a.add 1).add j=a.add (j+1):=by
    unfold Addr.add
    grind
   rw [e];exact this)
  simp only [List.length_cons,loadBytes,Sem.run_bind,run_load,I,Result.andThen]
  simp_all
theorem YP {w:World} {b n:Nat} {cs:Array Value} {ty:TypeId} {fr:Nat×Nat} (U:w.heap[b]? =some (.cells cs ty fr)):(w.freeze ⟨b,0,none⟩ n).heap.size=w.heap.size∧(∀ G,G≠b→(w.freeze ⟨b,0,none⟩ n).heap[G]? =w.heap[G]?)∧(∀ B,B≤b→bw B w (w.freeze ⟨b,0,none⟩ n))∧∃ O,(w.freeze ⟨b,0,none⟩ n).heap[b]? =some (.cells cs ty O):=by
 unfold World.freeze
 by_cases I:n=0
 ·rw [if_pos I]
  exact ⟨rfl,fun _ _=>rfl,fun B _=>bw.refl _ _,fr,U⟩
 ·rw [if_neg I]
  have J:∀ G,G≠b→(w.heap.modify b fun
   | .cells c M (lo,hi)=> .cells c M (if lo==hi then (0,0+n) else (min lo 0,max hi (0+n)))
   | o=>o)[G]? =w.heap[G]? :=by
   grind
  refine ⟨Array.size_modify,J,fun B Z=> ⟨⟨rfl,rfl,rfl,by grind,fun k ab=>J k (by omega)⟩,Nat.le_refl _⟩, ?_⟩
  grind
theorem YK (zs:Array Value) (n:Nat):(Builtin.zeroCells zs n).toList=(List.range (n*zs.size)).map fun j=>zs.toList.getD (j % zs.size) undef:=by
 unfold Builtin.zeroCells
 rw [Array.toList_map,Array.toList_range]
 refine List.map_congr_left fun j J=> ?_
 have G:0 < zs.size:=Nat.pos_of_ne_zero fun h=>by grind
 have I:=Nat.mod_lt j G
 grind
theorem ae4 {c:Call} (b0:o.op= .call c) (a7:c.callee= .builtin .clear) (h:FY P lo T c.args.toList c.argTypes.toList H k=some r):bm P ro T o H (match c.args.toList with | [x]=> .some false (tid true (aD T x)) | _=> .all) lo k r:=by
 have e4:∀ c,o.op≠ .defer c:=fun c h=>by grind
 unfold FY at h
 split at h
 ·rename_i x t a6 eL
  rw [a6]
  simp only
  unfold KZ at h
  simp only [Bool.cond_eq_ite] at h
  split at h
  ·rename_i e fl e7 i off n ez bx
   split at h
   ·cases h
   ·rename_i ep
    rw [decide_eq_true_eq] at ep
    split at h
    ·rename_i vs ty z J e3
     split at h
     ·rename_i b2
      simp only [Bool.and_eq_true,beq_iff_eq,decide_eq_true_eq] at b2
      obtain ⟨⟨⟨⟨⟨rfl,fc⟩,dx⟩,aE⟩,fs⟩,dy⟩:=b2
      have et:=(List.getElem?_eq_some_iff.1 J).1
      rw [bx]
      refine ⟨_,_,h,fun _ m bD=>List.getElem?_set_ne (by omega),fun B0 w0=>Mq J (fun m=>by simp [tid]) e4 rfl rfl (fun eg D α a w eh ea eb=> ?_)⟩
      have gf:x ∈ c.args:=Array.mem_toList_iff.1 (by grind)
      have b3:=eb x (by rw [b0];simp only [Op.operands,Call.operands,Array.mem_append];grind)
      rw [bx] at b3
      obtain ⟨hi,cap,hc,q1,q2,_,e5⟩:=b3
      have ed:cap≠0:=by omega
      obtain ⟨b1,_⟩:=e5.resolve_left ed
      first | rw [b1] at q1 | rw [← b1] at q1
      have I:eg i=some (.row (.vals vs) ty .live):=(eh i true (by simp [tid]) et).trans J
      obtain ⟨cs,fr,e1,b6,b7,ch,c0⟩:=iB ea hi I rfl
      obtain ⟨gn,G,z1,z2,rfl,z4,z5⟩:=qS e3
      have O:oZ n (G.cells.toList.map AV.val)=(List.range (n*G.cells.size)).map fun j=>G.cells.toList.getD (j % G.cells.size) undef:=by
       unfold oZ
       rw [List.map_map,List.length_map,Array.length_toList,show (kZ ∘ AV.val)=id from rfl,List.map_id]
      rw [List.length_map,Array.length_toList] at aE
      have ct:vs.length≤(α i).2:=ch
      have M:=YK G.cells n
      rw [← O] at M
      rw [aE] at O
      have a1:(Builtin.zeroCells G.cells n).toList.length=n*P.cellsOf e:=by grind
      have eu:∀ v ∈ (Builtin.zeroCells G.cells n).toList,v.oneCell'=true:=by
       rw [M,O]
       intro v e2
       obtain ⟨j,fv,rfl⟩:=List.mem_map.1 e2
       have I:0 < P.cellsOf e:=Nat.pos_of_ne_zero fun h=>by grind
       have fa:=Nat.mod_lt j I
       rw [List.getD_eq_getElem?_getD,List.getElem?_eq_getElem (show j % P.cellsOf e < G.cells.toList.length by grind)]
       exact List.all_eq_true.1 dx (.val _) (List.mem_map.2 ⟨_,List.getElem_mem _,rfl⟩)
      obtain ⟨w',U,c3,c4,ab,c5,c6,c7⟩:=zX (P:=P) (α i).1 off ty fr (Builtin.zeroCells G.cells n).toList 0 w cs e1 (by omega) (by grind) eu
      have ev:(execOp a.eval o).run P w= .ok (.value (.tuple #[])) w':=by
       obtain ⟨e6,b5,ts⟩:=c
       simp only at a7 a6 eL
       subst a7
       have ec:b5= #[x]:=by grind
       have eN:ts= #[t]:=by grind
       subst ec eN
       have bD:Array.map a.eval #[x]= #[a.eval x]:=by simp
       have eR:P.underlying t=some (.slice e):=by
        unfold kU at ez
        grind
       obtain ⟨b4,rfl⟩:∃ b4,n=b4+1:= ⟨n - 1,by omega⟩
       unfold execOp
       rw [b0]
       simp [resolve,Result.andThen,invoke,builtin,bD,q1,Builtin.clear_,run_underlying eR,zeroValue,typeInfo,z1,z2,c3]
      refine ⟨w', .tuple #[],hi,c7,c5,c6, .inr ev,fun B' en=> .inr ⟨U,fr,c4, ?_,b7, ?_, ?_⟩,fun _ _ _ _=> ⟨#[],rfl,rfl⟩⟩
      ·have:=congrArg List.length ab
       grind
      ·show (vs.take off ++ _ ++ vs.drop _).length≤_
       grind
      ·have Z:=aj.mono _ _ en c0
       have eo:(List.take off vs ++ (Builtin.zeroCells G.cells n).toList ++ List.drop (off+n*P.cellsOf e) vs).length=vs.length:=by
        grind
       show aj P α B' w' (List.map AV.val (vs.take off ++ _ ++ vs.drop _)) D (U.toList.take (vs.take off ++ _ ++ vs.drop _).length)
       rw [← M,eo,ab,Nat.add_zero,a1,QP cs.toList _ a1 dy (show vs.length≤cs.toList.length from Nat.le_trans ct (Nat.le_of_eq (b6.symm.trans Array.length_toList.symm))),List.map_append,List.map_append,List.map_take,List.map_drop]
       exact aj.append (aj.append (aj.take Z _) (aj.vals _)) (aj.drop Z _)
     ·cases h
    ·cases h
  ·cases h
 ·cases h
theorem afq {c:Call} (U:o.op= .call c) (b0:c.callee= .builtin .unsafeString) (h:F7 P lo T o c.args.toList c.argTypes.toList H k=some r):bm P ro T o H (match c.args.toList with | p :: _=> .some false (tid true (aD T p)) | _=> .all) lo k r:=by
 have b6:∀ c,o.op≠ .defer c:=fun c h=>by grind
 unfold F7 at h
 split at h
 ·rename_i p n tp ti bD ep
  rw [bD]
  simp only
  split at h
  ·rename_i i off M
   split at h
   ·rename_i kn z eh
    unfold QG at h
    simp only [Bool.cond_eq_ite] at h
    split at h
    ·rename_i e zs ty eu a6
     split at h
     ·rename_i b4
      simp only [Bool.and_eq_true,beq_iff_eq,decide_eq_true_eq] at b4
      obtain ⟨⟨⟨⟨⟨⟨⟨rfl,ab⟩,rfl⟩,fa⟩,I⟩,aE⟩,dx⟩,fc⟩:=b4
      have b3:=(List.getElem?_eq_some_iff.1 a6).1
      rw [M]
      refine ⟨_,_,h,fun gn m G=>List.getElem?_set_ne (by omega),fun B0 w0=> ⟨by simp,fun m G eg=> ?_,fun h ec ro D α a w K Q a7 hc bx dy=> ?_⟩⟩
      ·rw [List.getElem?_set_ne]
       rintro rfl
       exact eg (by simp [tid])
      ·have hf:p ∈ c.args:=Array.mem_toList_iff.1 (by grind)
       have hd:n ∈ c.args:=Array.mem_toList_iff.1 (by grind)
       have O:=bx p (by rw [U];simp only [Op.operands,Call.operands,Array.mem_append];grind)
       have b7:=bx n (by rw [U];simp only [Op.operands,Call.operands,Array.mem_append];grind)
       rw [M] at O
       rw [eh] at b7
       obtain ⟨a1,O⟩:=O
       have eL:a.eval n= .int kn z:=b7
       have b1:h i=some (.row (.ints .u8 zs) e .live):=(ec i ⟨true,by simp [tid]⟩ b3).trans a6
       obtain ⟨cs,fr,e1,e2,e3,ct,c0⟩:=iB a7 a1 b1 rfl
       have e4:zs.length≤(α i).2:=ct
       have e5:cB h H (H.set i (.row (.ints .u8 zs) e .froz)) (tid true (.ptr i 0))=bh h i (some (.row (.ints .u8 zs) e .froz)):=by
        funext m
        unfold cB bh
        by_cases G:m=i
        ·subst G
         rw [if_pos (.inl (by simp [tid])),if_pos rfl,List.getElem?_set_self b3]
        ·rw [if_neg,if_neg G]
         rintro (I | ⟨I,aE⟩)
         ·simp [tid] at I;exact G I
         grind
       obtain ⟨c3,c4,c5,e6⟩:=YP (n:=z.toNat) e1
       obtain ⟨fs,gf⟩:=ab1 a7 a1 b1 c3 c4 c5 (fun eR e7 fv=>by grind)
       refine sZ (w':=w.freeze ⟨(α i).1,0,none⟩ z.toNat) (x:= .string (ofBytes (zs.take z.toNat))) b6 ?_ (dy D α _ _ (by grind) (fun i hi=> .inl hi) (by grind) rfl)
       obtain ⟨eN,ch,ts⟩:=c
       simp only at b0 bD ep
       subst b0
       have ea:ch= #[p,n]:=by grind
       have et:ts= #[tp,ti]:=by grind
       subst ea et
       have G:Array.map a.eval #[p,n]= #[a.eval p,a.eval n]:=by simp
       have eb:z.toNat≤cs.size:=by omega
       have ed:=Lib.liesAt_bytes (P:=P) ab cs.size z.toNat eb
       have b2:=PE (P:=P) (w:=w) (zs.take z.toNat) ⟨(α i).1,0,none⟩ .empty (fun Z J=>List.all_eq_true.1 dx Z (List.mem_of_mem_take J)) (fun j Z J=>by
        rw [List.getElem?_take] at J
        split at J
        ·rw [fR,mL e1]
         obtain ⟨y,c6,c7⟩:=sB c0 (v:= .val (.int .u8 Z)) (o:=j) (by show (zs.map _)[_]? =_;grind)
         rw [Nat.zero_add,c6]
         exact congrArg some c7
        ·cases J)
       rw [List.length_take,Nat.min_eq_left aE] at b2
       have ev:¬ z < 0:=by omega
       have hg:¬ z > IntKind.i64.max:=by simp_all
       have ez:z≠0:=by omega
       unfold execOp
       rw [U]
       have eo:w.shape? (α i).1=some (e,cs.size):=by simp [World.shape?,e1]
       have b5:=ahf (P:=P) (w:=w) (tp:=tp) (ti:=ti) (ty:=o.type) (kn:=kn) eu ev I ez eo ab ed b2
       have en:(⟨ByteArray.empty.data ++ (List.map (fun z=>UInt8.ofNat z.toNat) (List.take z.toNat zs)).toArray⟩:ByteArray)=ofBytes (zs.take z.toNat):=by
        apply ByteArray.ext
        simp [ofBytes]
       rw [en] at b5
       simp only [resolve,Sem.run_bind,Sem.run_pure,Result.andThen,invoke,builtin,G,O,eL,b5]
     ·cases h
    ·cases h
   ·cases h
  ·rename_i v M
   have:=qH (ro:=ro) (lo:=lo) b6 h
   rw [M]
   exact this
  ·cases h
 ·cases h
theorem YF {g:FuncId} (h:Dq P g=true) (x:Value) (w:World):(callFunc g #[x]).run P w= .ok (.value x) w:=by
 unfold Dq at h
 split at h
 ·rename_i G O
  simp only [Bool.and_eq_true,beq_iff_eq,Bool.or_eq_true] at h
  obtain ⟨⟨hb,ab⟩,aE⟩:=h
  have J:Extern.findNext G=none:=by
   unfold Extern.findNext
   have e1 : Extern.allNextRows.lookup "internal/abi.NoEscape" = none := by kernel_rfl
   have I : Extern.allNextRows.lookup "" = none := by kernel_rfl
   grind
  have M:Extern.find G=some Extern.AbiNoEscape.same:=by
   unfold Extern.find
   have I : Extern.allGenericRows.lookup "internal/abi.NoEscape" = none := by kernel_rfl
   have U : Extern.allTypedRows.lookup "internal/abi.NoEscape" = none := by kernel_rfl
   have Z : Extern.allRows.lookup "internal/abi.NoEscape" = some Extern.AbiNoEscape.same := by kernel_rfl
   grind
  rw [run_callFunc_extern O (by grind) hb J M]
  rfl
 ·cases h
theorem ae8 {c:Call} {f:Operand} {v:AV} (M:o.op= .call c) (Z:c.callee= .value f) (G:Dp P (aD T f) (c.args.toList.map (aD T))=some v) (h:k v H=some r) (rd:Bool) {l:List (Nat×Bool)} (bD:∀ m,(m,true) ∉ l):bm P ro T o H (.some rd l) lo k r:=by
 have b1:∀ c,o.op≠ .defer c:=fun c h=>by grind
 unfold Dp at G
 simp only [Bool.cond_eq_ite] at G
 split at G
 ·rename_i g a b b7 a7 J
  split at G
  ·rename_i ab
   cases G
   simp only [Bool.and_eq_true,beq_iff_eq,Array.size_eq_zero_iff] at ab
   obtain ⟨⟨ha,hb⟩,bx⟩:=ab
   subst ha hb
   refine dO h bD b1 (fun B0 w0 b5 D α I w b6 b4 U=> ?_)
   obtain ⟨b3,O,ts⟩:=c
   simp only at Z J
   subst Z
   obtain ⟨p,aE⟩:∃ p,O= #[p]:=by
    have:O.toList.length=1:=by have:=congrArg List.length J;grind
    obtain ⟨p,aE⟩:=List.length_eq_one_iff.1 this
    grind
   subst aE
   simp only [List.map_cons,List.map_nil,List.cons.injEq,and_true] at J
   have a1:=U f (by rw [M];simp [Op.operands,Call.operands])
   have a6:=U p (by rw [M];simp [Op.operands,Call.operands])
   rw [a7] at a1
   rw [J] at a6
   have b2:I.eval f= .func (.func g) #[] #[]:=a1
   refine ⟨I.eval p, ?_,a6⟩
   have b0:Array.map I.eval #[p]= #[I.eval p]:=by simp
   unfold execOp
   rw [M]
   simp only [resolve,b2,Deferred.ofValue,b0,Sem.run_bind,Sem.run_pure,Result.andThen,invoke,Array.empty_append,Array.append_empty,YF bx]
  ·cases G
 ·cases G
end
end Go.V
namespace Go.V
open Go Go.RowKit
def cw:Nat→Nat×Nat:=fun _=>(0,0)
def bf (P:Program) (C:FuncId→List AV→Option (Bool×AV)):Prop:=
 ∀ g args r,C g args=some (true,r)→∀ (B:Nat→Prop) (w:World) (G:Array Value),(∀ b,B b→b < w.heap.size∧∀ ds,w.heap[b]?≠some (.deferred ds))→aj P cw B w args bo G.toList→
  Calls P g G w fun e w'=>∃ y,e= .returned y∧bw w.heap.size w w'∧r.Rel P cw B w' bo y
def ta (P:Program) (B0:Nat→Prop) (w0:World) (D:Nat→Prop) (α:Nat→Nat×Nat) (h:Hf) (w:World) (n G:Nat) (v:AV) (h':Hf):Ending→World→Prop:=fun e w'=>
 ∃ y D' α',e= .returned y∧Ok P B0 w0 D' α' h' w'∧(∀ i,D' i→D i∨(n≤i∧i < G))∧bG D D' α α' (aP D α h) (aP D' α' h') w w'∧v.Rel P α' (Own B0 D' α' h') w' D' y
def dg (P:Program) (g:FuncId) (args:List AV) (H:Hp) (v:AV) (G:Hp):Prop:=
 ∀ (B0:Nat→Prop) (w0:World) (D:Nat→Prop) (α:Nat→Nat×Nat) (w:World) (I:Array Value),Ok P B0 w0 D α (H[·]?) w→aj P α (Own B0 D α (H[·]?)) w args D I.toList→
  CallsIn Fence.wide 0 P g I w (ta P B0 w0 D α (H[·]?) w H.length G.length v (G[·]?))
def th (P:Program) (g:FuncId) (args:List AV) (v:AV):Prop:=
 ∀ (B0:Nat→Prop) (w0:World) (D:Nat→Prop) (α:Nat→Nat×Nat) (h:Hf) (w:World) (G:Array Value),Ok P B0 w0 D α h w→aj P α (Own B0 D α h) w args D G.toList→
  CallsIn Fence.wide 0 P g G w (ta P B0 w0 D α h w 0 0 v h)
def Iy (P:Program) {R:Type} (cf:Nat→FuncId→List AV→Hp→Kn R→Option R):Prop:=
 ∀ lo g args H k r,fB P g=true→cf lo g args H k=some r→∃ v G,k v G=some r∧H.length≤G.length∧(lo≤H.length→∀ m,m < lo→G[m]? =H[m]?)∧dg P g args H v G
def Kp (P:Program) (i:Nat) (args:List AV) (H:Hp) (v:AV) (G:Hp):Prop:=
 ∀ (B0:Nat→Prop) (w0:World) (D:Nat→Prop) (α:Nat→Nat×Nat) (w:World) (I:Array Value),Ok P B0 w0 D α (H[·]?) w→D i→aj P α (Own B0 D α (H[·]?)) w args D I.toList→
  YieldAt Fence.wide 0 P (α i).1 I w (ta P B0 w0 D α (H[·]?) w H.length G.length v (G[·]?))
def Ko (P:Program) {R:Type} (yf:Nat→Nat→List AV→Hp→Kn R→Option R):Prop:=
 ∀ lo i args H k r,yf lo i args H k=some r→∃ v G,k v G=some r∧H.length≤G.length∧(lo≤H.length→∀ m,m < lo→G[m]? =H[m]?)∧Kp P i args H v G
section
variable {R : Type} {P : Program}
theorem rT {v:AV} {α α':Nat→Nat×Nat} {B:Nat→Prop} {w:World} {x:Value} (h:v.Rel P α B w bo x):v.Rel P α' B w bo x:=AV.Rel.mono v x ⟨fun _ h=>h,fun _ h=>h.elim,fun b cs ty fr G I=> ⟨I,G⟩⟩ h
theorem Nu {v:AV} {α α':Nat→Nat×Nat} {B:Nat→Prop} {w:World} {D:Nat→Prop} {x:Value} (h:v.Rel P α B w bo x):v.Rel P α' B w D x:=zP (rT h)
theorem UQ {v:AV} (G:owns v=false) {D:Nat→Prop} {α α':Nat→Nat×Nat} {B:Nat→Prop} {w:World} {x:Value} (h:v.Rel P α B w D x):v.Rel P α' B w bo x:=by
 cases v with
 | val v=>exact h
 | lst fl t n f=>exact rT (α:=α) (v:= .lst fl t n f) h
 | eptr t n f j off=>exact rT (α:=α) (v:= .eptr t n f j off) h
 | agg cs=>
  obtain ⟨M,rfl,I⟩:=h
  refine ⟨M,rfl, ?_⟩
  simp only [owns,Bool.not_eq_false'] at G
  generalize M.toList=l at I
  induction cs generalizing l with
  | nil=>exact I
  | cons c cs U=>
   obtain ⟨y,zs,rfl,J,O⟩:=I
   rw [List.all_cons,Bool.and_eq_true] at G
   refine ⟨y,zs,rfl, ?_,U G.2 _ O⟩
   cases c with
   | val v=>exact J
   | lst fl t n f=>exact rT (α:=α) (v:= .lst fl t n f) J
   | _=>simp at G
 | _=>simp [owns] at G
theorem K0:∀ {vs:List AV},vs.any owns=false→∀ {D:Nat→Prop} {α α':Nat→Nat×Nat} {B:Nat→Prop} {w:World} {G:List Value},aj P α B w vs D G→aj P α' B w vs bo G
 | [],_,D,α,α',B,w,G,h=>h
 | v :: vs,I,D,α,α',B,w,G,h=>by
  obtain ⟨y,zs,rfl,J,M⟩:=h
  rw [List.any_cons,Bool.or_eq_false_iff] at I
  exact ⟨y,zs,rfl,UQ I.1 J,K0 I.2 M⟩
theorem NS {B0:Nat→Prop} {w0:World} {D:Nat→Prop} {α:Nat→Nat×Nat} {h:Hf} {w:World} (G:Ok P B0 w0 D α h w):∀ b,Own B0 D α h b→b < w.heap.size∧∀ ds,w.heap[b]?≠some (.deferred ds):=by
 rintro b (hb | hb)
 ·exact G.cO b hb
 ·refine ⟨?_,fun ds I=>El G I hb⟩
  obtain ⟨i,k,hi,_,_,rfl⟩:=hb
  exact (G.fresh i hi).2
theorem UB {C:FuncId→List AV→Option (Bool×AV)} (I:bf P C) {g:FuncId} {args:List AV} {v:AV} (h:C g args=some (true,v)) (Z:args.any owns=false):th P g args v:=by
 intro B0 w0 D α O w aE G M
 refine callsIn_wide.2 (Calls.mono (I g args v h (Own B0 D α O) w aE (NS G) (K0 Z M)) ?_)
 rintro e w' ⟨y,rfl,hb,ab⟩
 obtain ⟨J,U⟩:=oF G hb
 exact ⟨y,D,α,rfl,J,fun i hi=> .inl hi,U,Nu ab⟩
theorem th.ui {g:FuncId} {args:List AV} {v:AV} (h:th P g args v) (H:Hp):dg P g args H v H:=by
 intro B0 w0 D α w ab U Z
 refine (h B0 w0 D α _ w ab U Z).mono ?_
 rintro e w' ⟨y,D',α',G,I,J,M,O⟩
 exact ⟨y,D',α',G,I,fun i hi=>(J i hi).elim .inl (fun h=>by omega),M,O⟩
theorem Dj {f:AV→(AV→Option R)→Option R} {Q:AV→AV→Prop} (J:∀ v k r,f v k=some r→∃ G,k G=some r∧Q v G):∀ (l:List AV) (k:List AV→Option R) (r:R),mQ f l k=some r→∃ I:List AV,k I=some r∧I.length=l.length∧∀ (i:Nat) (v G:AV),l[i]? =some v→I[i]? =some G→Q v G
 | [],k,r,h=> ⟨[],h,rfl,fun i v G h=>by simp at h⟩
 | v :: l,k,r,h=>by
  obtain ⟨G,M,O⟩:=J v _ r h
  obtain ⟨I,U,Z,ab⟩:=Dj J l _ r M
  grind
def q8 (H:Hp) (ids:List Nat) (G:Hf):Prop:=∀ i c ty st,H[i]? =some (.row c ty st)→(st= .live∧i ∈ ids∨st= .froz)→G i=some (.row c ty .froz)
theorem WR {D:Nat→Prop} {α:Nat→Nat×Nat} {B:Nat→Prop} {w:World} {c:ao} {J:List AV} {off sz len:Nat} {cs:Array Value} (O:aj P α B w c.a8 D (cs.toList.take c.len)) (b0:off+len*sz≤c.len) (aE:∀ l,c= .cells l→J.length=l.length∧∀ (i:Nat) (v Z:AV),l[i]? =some v→J[i]? =some Z→∀ x,v.Rel P α B w D x→Z.Rel P α B w bo x):
  ∀ j q,j < len→q < sz→∃ y,cs[off+j*sz+q]? =some y∧(cC c J off sz j q).Rel P α B w bo y:=by
 intro j q ab b1
 have M:off+j*sz+q < c.len:=by
  have:(j+1)*sz≤len*sz:=Nat.mul_le_mul_right _ ab
  grind
 cases c with
 | cells l=>
  obtain ⟨a7,bx⟩:=aE l rfl
  have hi:off+j*sz+q < l.length:=M
  have bD:off+j*sz+q < J.length:=by omega
  obtain ⟨y,G,I⟩:=sB O (v:=l[off+j*sz+q]) (List.getElem?_eq_getElem hi)
  refine ⟨y,G, ?_⟩
  show (J.getD (off+j*sz+q) .any).Rel P α B w bo y
  grind
 | ints a6 zs=>
  have hi:off+j*sz+q < zs.length:=M
  obtain ⟨y,G,I⟩:=sB O (v:= .val (.int a6 zs[off+j*sz+q])) (by show (zs.map _)[_]? =_;rw [List.getElem?_map,List.getElem?_eq_getElem hi];rfl)
  refine ⟨y,G, ?_⟩
  unfold cC
  simp only
  cases U:(sz==1) with
  | true=>
   rw [beq_iff_eq] at U
   subst U
   have a1:q=0:=by omega
   subst a1
   simp only [cond]
   have:(zs.drop off).getD j 0=zs[off+j*1+0]:=by
    grind
   rw [this]
   exact I
  | false=>
   simp only [cond]
   rw [List.getD_eq_getElem?_getD,List.getElem?_eq_getElem hi]
   exact I
 | vals vs=>
  have hi:off+j*sz+q < vs.length:=M
  obtain ⟨y,G,I⟩:=sB O (v:= .val vs[off+j*sz+q]) (by show (vs.map _)[_]? =_;rw [List.getElem?_map,List.getElem?_eq_getElem hi];rfl)
  refine ⟨y,G, ?_⟩
  show (AV.val (vs.getD (off+j*sz+q) undef)).Rel P α B w bo y
  rw [List.getD_eq_getElem?_getD,List.getElem?_eq_getElem hi]
  exact I
theorem wh {D:Nat→Prop} {α:Nat→Nat×Nat} {B:Nat→Prop} {w:World} {l G:List AV} (O:G.length=l.length) (h:∀ (i:Nat) (v I:AV),l[i]? =some v→G[i]? =some I→∀ x,v.Rel P α B w D x→I.Rel P α B w bo x) {M:List Value} (J:aj P α B w l D M):aj P α B w G bo M:=by
 refine aj.oC (by rw [aj.len J,O]) (fun i I ab=> ?_)
 have hi:i < l.length:=by grind
 obtain ⟨y,U,Z⟩:=aj.get J (List.getElem?_eq_getElem hi)
 grind
theorem Dy {H:Hp} :∀ (d:Nat) (v:AV) (k:AV→Option R) (r:R),lh P H d v k=some r→∃ J,k J=some r∧
  ∀ {B0:Nat→Prop} {w0:World} {D:Nat→Prop} {α:Nat→Nat×Nat} {G:Hf} {w:World},Ok P B0 w0 D α G w→q8 H (cG H d [v]) G→∀ x,v.Rel P α (Own B0 D α G) w D x→J.Rel P α (Own B0 D α G) w bo x
 | 0,v,k,r,h=>by simp [lh] at h
 | d+1,v,k,r,h=>by
  have sub:∀ (l:List AV) (K:List AV→Option R) (r:R),mQ (lh P H d) l K=some r→∃ O:List AV,K O=some r∧O.length=l.length∧
    ∀ {B0:Nat→Prop} {w0:World} {D:Nat→Prop} {α:Nat→Nat×Nat} {G:Hf} {w:World},Ok P B0 w0 D α G w→q8 H (cG H d l) G→∀ (i:Nat) (v J:AV),l[i]? =some v→O[i]? =some J→∀ x,v.Rel P α (Own B0 D α G) w D x→J.Rel P α (Own B0 D α G) w bo x:=by
   intro l K r bx
   obtain ⟨O,G,aE,a1⟩:=Dj (Q:=fun v J=>∀ {B0:Nat→Prop} {w0:World} {D:Nat→Prop} {α:Nat→Nat×Nat} {G:Hf} {w:World},Ok P B0 w0 D α G w→q8 H (cG H d [v]) G→∀ x,v.Rel P α (Own B0 D α G) w D x→J.Rel P α (Own B0 D α G) w bo x) (fun v k r h=>Dy d v k r h) l K r bx
   refine ⟨O,G,aE,fun {B0 w0 D α G w} M U i v J b4 ea x I=>a1 i v J b4 ea M (fun j c ty st Z ab=>U j c ty st Z (ab.elim (fun e=> .inl ⟨e.1, ?_⟩) .inr)) x I⟩
   have eL:=List.mem_of_getElem? b4
   cases d with
   | zero=>exact absurd e.2 (by simp [cG])
   | succ d=>
    simp only [cG,List.flatMap_cons,List.flatMap_nil,List.append_nil] at e ⊢
    grind
  unfold lh at h
  simp only [Bool.cond_eq_ite] at h
  split at h
  ·exact ⟨_,h,fun _ _ x I=>I⟩
  ·rename_i fl t i off len
   split at h
   ·rename_i c ty st b2
    split at h
    ·cases h
    ·rename_i ab
     split at h
     ·rename_i bD
      have bD:=of_decide_eq_true bD
      have ec:∀ (O:List AV),k (.lst fl t len (cC c O off (P.cellsOf t)))=some r→(∀ {B0:Nat→Prop} {w0:World} {D:Nat→Prop} {α:Nat→Nat×Nat} {G:Hf} {w:World},Ok P B0 w0 D α G w→q8 H (cG H d c.Aj) G→∀ l,c= .cells l→O.length=l.length∧∀ (i:Nat) (v J:AV),l[i]? =some v→O[i]? =some J→∀ x,v.Rel P α (Own B0 D α G) w D x→J.Rel P α (Own B0 D α G) w bo x)→∃ J,k J=some r∧
        ∀ {B0:Nat→Prop} {w0:World} {D:Nat→Prop} {α:Nat→Nat×Nat} {G:Hf} {w:World},Ok P B0 w0 D α G w→q8 H (cG H (d+1) [.sl fl t i off len]) G→∀ x,(AV.sl fl t i off len).Rel P α (Own B0 D α G) w D x→J.Rel P α (Own B0 D α G) w bo x:=by
       intro O c4 bx
       refine ⟨_,c4,fun {B0 w0 D α G w} M U x I=> ?_⟩
       have c3:∀ j,(j=i∧st= .live∨j ∈ cG H d c.Aj)→j ∈ cG H (d+1) [.sl fl t i off len]:=by
        intro j Z
        simp only [cG,List.flatMap_cons,List.flatMap_nil,List.append_nil,b2]
        cases st with
        | live=>grind
        | froz=>grind
        | dead=>simp at ab
       have b3:G i=some (.row c ty .froz):=U i c ty st b2 (by
        cases st with
        | live=>grind
        | froz=>grind
        | dead=>simp at ab)
       obtain ⟨hi,cap,ed,rfl,ct,c0,b0⟩:=I
       obtain ⟨cs,fr,e1,et,eu,ev,b5⟩:=iB M hi b3 rfl
       refine ⟨_,cap,rfl,ct,c0, ?_⟩
       by_cases eb:len=0
       ·exact .inl eb
       ·right
        rcases b0 with b0 | ⟨rfl,b0⟩
        ·omega
        ·refine ⟨_,ed,cs,ty,fr,rfl,M.dc i _ hi b3 rfl,e1, ?_⟩
         exact WR b5 bD (fun l c5=>bx M (fun j c' eh eg Z dy=>U j c' eh eg Z (dy.elim (fun e=> .inl ⟨e.1,c3 j (.inr e.2)⟩) .inr)) l c5)
      cases c with
      | cells l=>
       obtain ⟨O,G,aE,a1⟩:=sub l _ r h
       exact ec O G (fun {B0 w0 D α a7 w} M U l2 c6=>by cases c6;exact ⟨aE,a1 M U⟩)
      | ints eN zs=>grind
      | vals vs=>grind
     ·cases h
   ·cases h
  ·exact ⟨_,h,fun _ _ x I=>rT I⟩
  ·exact ⟨_,h,fun _ _ x I=>rT I⟩
  ·rename_i cs
   obtain ⟨O,G,aE,a1⟩:=sub cs _ r h
   refine ⟨_,G,fun {B0 w0 D α a7 w} M U x I=> ?_⟩
   obtain ⟨a6,rfl,b1⟩:=I
   exact ⟨a6,rfl,wh aE (a1 M (fun j c ty st Z ab=>U j c ty st Z (ab.elim (fun e=> .inl ⟨e.1,by simpa [cG] using e.2⟩) .inr))) b1⟩
  ·rename_i cs
   obtain ⟨O,G,aE,a1⟩:=sub cs _ r h
   refine ⟨_,G,fun {B0 w0 D α a7 w} M U x I=> ?_⟩
   obtain ⟨a6,rfl,b1⟩:=I
   exact ⟨a6,rfl,wh aE (a1 M (fun j c ty st Z ab=>U j c ty st Z (ab.elim (fun e=> .inl ⟨e.1,by simpa [cG] using e.2⟩) .inr))) b1⟩
  ·rename_i ez a b
   obtain ⟨eo,G,aE,a1⟩:=sub a _ r h
   obtain ⟨ep,b6,b7,ch⟩:=sub b _ r G
   refine ⟨_,b6,fun {B0 w0 D α a7 w} M U x I=> ?_⟩
   obtain ⟨en,a6,rfl,c7,dx⟩:=I
   exact ⟨en,a6,rfl,wh aE (a1 M (fun j c ty st Z ab=>U j c ty st Z (ab.elim (fun e=> .inl ⟨e.1,by simp [cG];grind⟩) .inr))) c7,
    wh b7 (ch M (fun j c ty st Z ab=>U j c ty st Z (ab.elim (fun e=> .inl ⟨e.1,by simp [cG];grind⟩) .inr))) dx⟩
  ·cases h
end
end Go.V
namespace Go.V
open Go Go.RowKit
section
variable {R : Type} {P : Program}
theorem YR (H:Hp) (i:Nat):(gW H i).length=H.length:=by
 unfold gW
 grind
theorem Mb:∀ (ids:List Nat) (H:Hp),(gX ids H).length=H.length
 | [],H=>rfl
 | i :: ids,H=>by unfold gX;rw [List.foldl_cons];exact (Mb ids _).trans (YR H i)
theorem DA (H:Hp) (i j:Nat):(gW H i)[j]? =(if j=i then (match H[i]? with | some (.row c ty .live)=>some (.row c ty .froz) | x=>x) else H[j]?):=by
 unfold gW
 grind
theorem y8:∀ (ids:List Nat) {H:Hp} {B0:Nat→Prop} {w0:World} {D:Nat→Prop} {α:Nat→Nat×Nat} {w:World},Ok P B0 w0 D α (H[·]?) w→Ok P B0 w0 D α ((gX ids H)[·]?) w∧bG D D α α (aP D α (H[·]?)) (aP D α ((gX ids H)[·]?)) w w
 | [],H,B0,w0,D,α,w,M=> ⟨M,bG.refl _ _ _ _⟩
 | i :: ids,H,B0,w0,D,α,w,M=>by
  have a6:Ok P B0 w0 D α ((gW H i)[·]?) w∧bG D D α α (aP D α (H[·]?)) (aP D α ((gW H i)[·]?)) w w:=by
   cases hi:H[i]? with
   | none=>
    have:gW H i=H:=by unfold gW;rw [hi]
    rw [this];exact ⟨M,bG.refl _ _ _ _⟩
   | some b=>
    by_cases hb:∃ c ty,b= .row c ty .live
    ·obtain ⟨c,ty,rfl⟩:=hb
     have e:((gW H i)[·]?)=bh (H[·]?) i (some (.row c ty .froz)):=by
      funext j
      rw [DA,hi]
      rfl
     rw [e]
     by_cases U:D i
     ·exact NL M U hi (.inr ⟨rfl,rfl⟩)
     ·have aE:∀ b,aP D α (bh (H[·]?) i (some (.row c ty .froz))) b↔aP D α (H[·]?) b:=by
       intro b
       constructor
       ·rintro ⟨j,k,G,I,J,Z⟩
        rw [bS _ _ (fun e:j=i=>U (e ▸ G))] at I
        exact ⟨j,k,G,I,J,Z⟩
       ·rintro ⟨j,k,G,I,J,Z⟩
        exact ⟨j,k,G,by rw [bS _ _ (fun e:j=i=>U (e ▸ G))];exact I,J,Z⟩
      have O:∀ {j},D j→bh (H[·]?) i (some (.row c ty .froz)) j=H[j]? :=fun {j} G=>bS _ _ (fun e:j=i=>U (e ▸ G))
      have a1:bG D D α α (aP D α (H[·]?)) (aP D α (bh (H[·]?) i (some (.row c ty .froz)))) w w:= ⟨fun _ h=>h,fun _ _=>rfl,fun b o I J=> ⟨fun h=>J ((aE b).1 h),I⟩⟩
      refine ⟨⟨fun j G=>by rw [O G];exact M.lt j G,M.below,M.cO,fun b a7 ab=>M.sep b a7 ((aE b).1 ab),M.fresh,fun a b bD b0 ha hb I J=> ?_,fun j k G I J ab=> ?_,fun j k G I=> ?_⟩,a1⟩
      ·rw [O ha] at I;rw [O hb] at J;exact M.inj a b bD b0 ha hb I J
      ·rw [O G] at I;exact M.dc j k G I J (ab.elim .inl (fun h=> .inr ((aE _).1 h)))
      ·rw [O G] at I;exact cP.mono (a1.keeps B0) (fun o bx _=>bx) (M.cM j k G I)
    ·have:gW H i=H:=by
      unfold gW
      grind
     rw [this];exact ⟨M,bG.refl _ _ _ _⟩
  have J:=y8 ids (H:=gW H i) a6.1
  unfold gX
  rw [List.foldl_cons]
  exact ⟨J.1,a6.2.trans J.2⟩
theorem DB:∀ (ids:List Nat) (H:Hp) (i:Nat) (c:ao) (ty:TypeId),(H[i]? =some (.row c ty .froz)∨H[i]? =some (.row c ty .live)∧i ∈ ids)→(gX ids H)[i]? =some (.row c ty .froz)
 | [],H,i,c,ty,h=>by
  rcases h with h | ⟨_,h⟩
  ·exact h
  ·cases h
 | j :: ids,H,i,c,ty,h=>by
  unfold gX
  rw [List.foldl_cons]
  apply DB ids
  rw [DA]
  grind
theorem Mc:∀ (ids:List Nat) (H:Hp) (m:Nat),m ∉ ids→(gX ids H)[m]? =H[m]?
 | [],H,m,_=>rfl
 | j :: ids,H,m,h=>by
  unfold gX
  rw [List.foldl_cons]
  have G:m≠j:=fun e=>h (e ▸ List.mem_cons_self)
  have:=Mc ids (gW H j) m (fun I=>h (List.mem_cons_of_mem _ I))
  unfold gX at this
  rw [this,DA,if_neg G]
theorem OK {v:AV} (h:sk v=true) {α α':Nat→Nat×Nat} {B B':Nat→Prop} {w w':World} {D D':Nat→Prop} {x:Value} (G:v.Rel P α B w D x):v.Rel P α' B' w' D' x:=by
 cases v with
 | val v=>exact G
 | agg cs=>
  obtain ⟨I,rfl,G⟩:=G
  refine ⟨I,rfl, ?_⟩
  simp only [sk] at h
  generalize I.toList=l at G
  induction cs generalizing l with
  | nil=>exact G
  | cons c cs O=>
   obtain ⟨y,zs,rfl,J,M⟩:=G
   rw [List.all_cons,Bool.and_eq_true] at h
   refine ⟨y,zs,rfl, ?_,O h.2 _ M⟩
   cases c with
   | val v=>exact J
   | _=>simp [isVal] at h
 | _=>simp [sk] at h
theorem acy {v:AV} (h:zo v=true) {α α':Nat→Nat×Nat} {B B':Nat→Prop} {w w':World} {D D':Nat→Prop} {x:Value} (G:v.Rel P α B w D x):v.Rel P α' B' w' D' x:=by
 cases v with
 | val v=>exact G
 | agg cs=>exact OK (v:= .agg cs) h G
 | tup cs=>
  obtain ⟨I,rfl,G⟩:=G
  refine ⟨I,rfl, ?_⟩
  simp only [zo] at h
  generalize I.toList=l at G
  induction cs generalizing l with
  | nil=>exact G
  | cons c cs O=>
   obtain ⟨y,zs,rfl,J,M⟩:=G
   rw [List.all_cons,Bool.and_eq_true] at h
   exact ⟨y,zs,rfl,OK h.1 J,O h.2 _ M⟩
 | _=>simp [zo,sk] at h
structure fp (x:Cx R):Prop where
 C:bf x.P x.E.C
 cf:Iy x.P x.cf
 yf:Ko x.P x.yf
theorem Uy {x:Cx R} (b0:fp x) {g:FuncId} {args:List AV} {H:Hp} {k:Kn R} {r:R} (h:tB x g args H k=some r):
  fB x.P g=true∧∃ v G,k v G=some r∧H.length≤G.length∧(x.lo≤H.length→∀ m,m < x.lo→G[m]? =H[m]?)∧dg x.P g args H v G∧(args.any owns=false→(x.E.C g args).isSome=true→G=H∧th x.P g args v):=by
 unfold tB at h
 simp only [Bool.cond_eq_ite] at h
 split at h
 ·rename_i b4
  refine ⟨b4, ?_⟩
  have inline:x.cf x.lo g args H k=some r→∃ v G,k v G=some r∧H.length≤G.length∧(x.lo≤H.length→∀ m,m < x.lo→G[m]? =H[m]?)∧dg x.P g args H v G:=fun c3=>b0.cf x.lo g args H k r b4 c3
  split at h
  ·rename_i bx
   have b7:(∃ v G,k v G=some r∧H.length≤G.length∧(x.lo≤H.length→∀ m,m < x.lo→G[m]? =H[m]?)∧dg x.P g args H v G)→∃ v G,k v G=some r∧H.length≤G.length∧(x.lo≤H.length→∀ m,m < x.lo→G[m]? =H[m]?)∧dg x.P g args H v G∧(args.any owns=false→(x.E.C g args).isSome=true→G=H∧th x.P g args v):=by
    grind
   apply b7
   split at h
   ·obtain ⟨b2,I,ab,ch⟩:=Dj (Q:=fun v b1=>∀ {B0:Nat→Prop} {w0:World} {D:Nat→Prop} {α:Nat→Nat×Nat} {I:Hf} {w:World},Ok x.P B0 w0 D α I w→q8 H (cG H 8 [v]) I→∀ y,v.Rel x.P α (Own B0 D α I) w D y→b1.Rel x.P α (Own B0 D α I) w bo y) (fun v k r h=>Dy 8 v k r h) args _ r h
    unfold KN at I
    simp only [Bool.cond_eq_ite] at I
    split at I
    ·rename_i rv dx
     split at I
     ·rename_i hb
      have b6:∀ (B0:Nat→Prop) (w0:World) (D:Nat→Prop) (α:Nat→Nat×Nat) (w:World) (J:Array Value),Ok x.P B0 w0 D α (H[·]?) w→aj x.P α (Own B0 D α (H[·]?)) w args D J.toList→
        CallsIn Fence.wide 0 x.P g J w (fun e w'=>∃ y,e= .returned y∧bw w.heap.size w w'∧rv.2.Rel x.P cw (Own B0 D α ((gX (cG H 8 args) H)[·]?)) w' bo y):=by
       intro B0 w0 D α w J M O
       obtain ⟨U,a7⟩:=y8 (cG H 8 args) M
       have c6:=aj.mono _ _ (a7.keeps B0) O
       have c7:aj x.P α (Own B0 D α ((gX (cG H 8 args) H)[·]?)) w b2 bo J.toList:=wh ab (fun i v b1 b5 dy y ea=>ch i v b1 b5 dy U (fun j c ty st c4 Z=>by
        apply DB
        rcases Z with ⟨rfl,Z⟩ | rfl
        ·refine .inr ⟨c4, ?_⟩
         simp only [cG,List.flatMap_cons,List.flatMap_nil,List.append_nil] at Z ⊢
         exact List.mem_flatMap.2 ⟨v,List.mem_of_getElem? b5,Z⟩
        grind) y ea) c6
       have ct:=b0.C g b2 rv.2 (by grind) (Own B0 D α ((gX (cG H 8 args) H)[·]?)) w J (NS U) (aj.mono _ _ ⟨fun _ h=>h,fun _ h=>h.elim,fun b cs ty fr I ab=> ⟨ab,I⟩⟩ c7)
       exact callsIn_wide.2 ct
      split at I
      ·rename_i c5
       refine ⟨_,H,I,Nat.le_refl _,fun _ _ _=>rfl,fun B0 w0 D α w J M O=>(b6 B0 w0 D α w J M O).mono ?_⟩
       rintro e w' ⟨y,rfl,a1,bD⟩
       obtain ⟨aE,a6⟩:=oF M a1
       exact ⟨y,D,α,rfl,aE,fun i hi=> .inl hi,a6,acy c5 bD⟩
      ·split at I
       ·rename_i c0
        rw [List.all_eq_true] at c0
        refine ⟨_,_,I,by rw [Mb];grind,fun eb m ec=>Mc _ _ _ (fun ed=> ?_),fun B0 w0 D α w J M O=>(b6 B0 w0 D α w J M O).mono ?_⟩
        ·grind
        ·rintro e w' ⟨y,rfl,a1,bD⟩
         obtain ⟨U,a7⟩:=y8 (cG H 8 args) M
         obtain ⟨aE,a6⟩:=oF U a1
         exact ⟨y,D,α,rfl,aE,fun i hi=> .inl hi,a7.trans a6,Nu bD⟩
       ·cases I
     ·cases I
    grind
   grind
  ·rename_i bx
   have bx:args.any owns=false:=by grind
   unfold KP at h
   split at h
   ·rename_i rv dx
    simp only [Bool.cond_eq_ite] at h
    split at h
    ·rename_i hb
     have b3:=UB b0.C (g:=g) (args:=args) (v:=rv.2) (by grind) bx
     exact ⟨rv.2,H,h,Nat.le_refl _,fun _ _ _=>rfl,b3.ui H,fun _ _=> ⟨rfl,b3⟩⟩
    ·cases h
   grind
 ·cases h
end
end Go.V
namespace Go.V
open Go Go.RowKit
section
variable {P : Program} {D D1 : Nat → Prop} {α α1 : Nat → Nat × Nat} {B B1 : Nat → Prop} {w : World} {ρ : Nat → Nat} {r : List Nat}
theorem Ee {v:AV} {x:Value} (J:∀ b,B1 b→B b) (h:v.Rel P α B w bo x):v.Rel P α1 B1 w bo x:=AV.Rel.mono v x ⟨fun _ h=>h,fun _ h=>h.elim,fun b cs ty fr G I=> ⟨fun h=>I (J b h),G⟩⟩ h
mutual
theorem adr (J:∀ i ∈ r,D i→D1 (ρ i)∧α1 (ρ i)=α i) (O:∀ b,B1 b→B b):∀ (v:AV) (x:Value),(∀ i ∈ Mw v,i ∈ r)→v.Rel P α B w D x→(sx ρ v).Rel P α1 B1 w D1 x
 | .any,x,hi,h=>trivial
 | .val v,x,hi,h=>h
 | .ptr i off,x,hi,h=>by
  obtain ⟨G,I⟩:=J i (hi i (List.mem_singleton.2 rfl)) h.1
  exact ⟨G,by rw [I];exact h.2⟩
 | .sl fl t i off len,x,hi,h=>by
  obtain ⟨G,I⟩:=J i (hi i (List.mem_singleton.2 rfl)) h.1
  exact ⟨G,by rw [I];exact h.2⟩
 | .lst fl t n f,x,hi,h=>Ee (v:= .lst fl t n f) (α:=α) O h
 | .eptr t n f j off,x,hi,h=>Ee (v:= .eptr t n f j off) (α:=α) O h
 | .agg cs,x,hi,h=>by
  obtain ⟨M,G,I⟩:=h
  exact ⟨M,G,nC J O cs _ hi I⟩
 | .tup cs,x,hi,h=>by
  obtain ⟨M,G,I⟩:=h
  exact ⟨M,G,nC J O cs _ hi I⟩
 | .clo ab a b,x,hi,h=>by
  obtain ⟨Z,M,G,I,U⟩:=h
  exact ⟨Z,M,G,nC J O a _ (fun i h=>hi i (List.mem_append_left _ h)) I,nC J O b _ (fun i h=>hi i (List.mem_append_right _ h)) U⟩
 | .yld i,x,hi,h=>by
  obtain ⟨G,I⟩:=J i (hi i (List.mem_singleton.2 rfl)) h.1
  exact ⟨G,by rw [I];exact h.2⟩
theorem nC (J:∀ i ∈ r,D i→D1 (ρ i)∧α1 (ρ i)=α i) (O:∀ b,B1 b→B b):∀ (l:List AV) (M:List Value),(∀ i ∈ fy l,i ∈ r)→aj P α B w l D M→aj P α1 B1 w (fj ρ l) D1 M
 | [],M,hi,h=>h
 | v :: l,M,hi,h=>by
  obtain ⟨y,zs,G,I,U⟩:=h
  exact ⟨y,zs,G,adr J O v y (fun i h=>hi i (List.mem_append_left _ h)) I,nC J O l zs (fun i h=>hi i (List.mem_append_right _ h)) U⟩
end
mutual
theorem adq:∀ v:AV,sx (fun i=>i) v=v
 | .any=>rfl
 | .val v=>rfl
 | .ptr i off=>rfl
 | .sl fl t i off len=>rfl
 | .lst fl t n f=>rfl
 | .eptr t n f j off=>rfl
 | .agg cs=>by unfold sx;rw [sA cs]
 | .tup cs=>by unfold sx;rw [sA cs]
 | .clo G a b=>by unfold sx;rw [sA a,sA b]
 | .yld i=>rfl
theorem sA:∀ l:List AV,fj (fun i=>i) l=l
 | []=>rfl
 | v :: l=>by unfold fj;rw [adq v,sA l]
end
theorem DJ (M:∀ i ∈ r,D i→D1 i) {l:List AV} {G:List Value} (hi:∀ i ∈ fy l,i ∈ r) (h:aj P α B w l D G):aj P α B w l D1 G:=by
 have:=nC (P:=P) (α1:=α) (D1:=D1) (B1:=B) (ρ:=fun i=>i) (r:=r) (fun i I J=> ⟨M i I J,rfl⟩) (fun _ h=>h) l G hi h
 rwa [sA] at this
theorem Ta (Z:∀ i ∈ r,D i→D1 i) (c:ao) {G:List Value} (hi:∀ i ∈ c.ids,i ∈ r) (h:aj P α B w c.a8 D G):aj P α B w c.a8 D1 G:=by
 have M:∀ (l:List AV),(∀ v ∈ l,∃ y,v= .val y)→∀ G,aj P α B w l D G→aj P α B w l D1 G:=by
  intro l
  induction l with
  | nil=>intro _ G h;exact h
  | cons v l ab=>
   intro J G h
   obtain ⟨y,zs,rfl,O,U⟩:=h
   obtain ⟨u,rfl⟩:=J v List.mem_cons_self
   exact ⟨y,zs,rfl,O,ab (fun v I=>J v (List.mem_cons_of_mem _ I)) zs U⟩
 cases c with
 | cells l=>exact DJ Z hi h
 | ints k zs=>exact M _ (fun v I=>by obtain ⟨z,_,rfl⟩:=List.mem_map.1 I;grind) G h
 | vals vs=>exact M _ (fun v I=>by obtain ⟨z,_,rfl⟩:=List.mem_map.1 I;grind) G h
theorem Te (U:∀ i ∈ r,D i→D1 i) {k:bQ} {a:Nat×Nat} (hi:∀ i ∈ k.ids,i ∈ r) (h:cP P α B w D k a):cP P α B w D1 k a:=by
 cases k with
 | row c ty st=>
  rcases h with h | ⟨cs,fr,G,I,J,M,O⟩
  ·exact .inl h
  ·by_cases Z:st= .dead
   ·exact .inl Z
   ·exact .inr ⟨cs,fr,G,I,J,M,Ta U c (fun i h=>hi i (by cases st <;> first | exact h | exact absurd rfl Z)) O⟩
 | loop aE=>
  obtain ⟨L,G,I,J,M,O,ab⟩:=h
  exact ⟨L,G,I,J,M,O,DJ U hi ab⟩
theorem UA {g:FuncId} {args:List AV} {H Z:Hp} {v:AV} (ez:dg P g args H v Z) (e6:∀ m,m < H.length→Z[m]? =H[m]?) (c5:tG r args H=true) (B0:Nat→Prop) (w0:World) (D:Nat→Prop) (α:Nat→Nat×Nat) (h:Hf) (w:World) (c6:Array Value)
  (b4:∀ m ∈ r,h m=H[m]?) (U:Ok P B0 w0 D α h w) (e5:∀ i,H.length≤i→i < Z.length→¬ D i) (ep:aj P α (Own B0 D α h) w args D c6.toList):
  CallsIn Fence.wide 0 P g c6 w fun e w'=>∃ y D' α',e= .returned y∧Ok P B0 w0 D' α' (cB h H Z (r.map fun i=>(i,false))) w'∧(∀ i,D' i→D i∨(H.length≤i∧i < Z.length))∧bG D D' α α' (aP D α h) (aP D' α' (cB h H Z (r.map fun i=>(i,false)))) w w'∧v.Rel P α' (Own B0 D' α' (cB h H Z (r.map fun i=>(i,false)))) w' D' y:=by
 classical
 unfold tG at c5
 simp only [Bool.and_eq_true,List.all_eq_true,List.contains_iff_mem] at c5
 obtain ⟨eo,e7⟩:=c5
 have ev:∀ i ∈ r,∃ b,H[i]? =some b∧∀ j ∈ b.ids,j ∈ r:=by
  grind
 have fa:∀ i ∈ r,i < H.length:=fun i hi=>by grind
 let b7:Nat→Prop:=fun i=>D i∧i ∈ r
 let X:Nat→Prop:=fun b=>∃ i k,D i∧i ∉ r∧h i=some k∧k.isLive=true∧(α i).1=b
 let B1:Nat→Prop:=fun b=>B0 b∨X b
 have a7:∀ b,aP D α h b↔aP b7 α (H[·]?) b∨X b:=by
  intro b
  constructor
  ·rintro ⟨i,k,G,I,O,ab⟩
   by_cases hi:i ∈ r
   ·exact .inl ⟨i,k, ⟨G,hi⟩,(b4 i hi).symm.trans I,O,ab⟩
   grind
  ·rintro (⟨i,k, ⟨G,hi⟩,I,O,ab⟩ | ⟨i,k,G,hi,I,O,ab⟩)
   ·exact ⟨i,k,G,(b4 i hi).trans I,O,ab⟩
   ·exact ⟨i,k,G,I,O,ab⟩
 have c4:Own B1 b7 α (H[·]?)=Own B0 D α h:=by
  funext b
  apply propext
  constructor
  ·rintro ((hb | hb) | hb)
   ·exact .inl hb
   ·exact .inr ((a7 b).2 (.inr hb))
   ·exact .inr ((a7 b).2 (.inl hb))
  ·rintro (hb | hb)
   ·exact .inl (.inl hb)
   ·rcases (a7 b).1 hb with hb | hb
    ·exact .inr hb
    ·exact .inl (.inr hb)
 have e4:∀ b,X b→¬ aP b7 α (H[·]?) b:=by
  rintro b ⟨i,k,G,I,O,ab,a1⟩ ⟨j,l, ⟨e1,ec⟩,ed,eg,eh⟩
  have:=U.inj i j k l G e1 O ((b4 j ec).trans ed) ab eg (a1.trans eh.symm)
  grind
 have dy:Ok P B1 w0 b7 α (H[·]?) w:=by
  refine ⟨?_,U.below, ?_, ?_,fun i hi=>U.fresh i hi.1, ?_, ?_, ?_⟩
  ·grind
  ·rintro b (hb | hb)
   ·exact U.cO b hb
   ·have et:aP D α h b:=(a7 b).2 (.inr hb)
    refine ⟨?_,fun ds eL=>El U eL et⟩
    obtain ⟨i,k,G,_,_,_,rfl⟩:=hb
    exact (U.fresh i G).2
  ·rintro b (hb | hb) M
   ·exact U.sep b hb ((a7 b).2 (.inl M))
   grind
  ·rintro i j k l ⟨hi,J⟩ ⟨aE,b5⟩ G I
   exact U.inj i j k l hi aE ((b4 i J).trans G) ((b4 j b5).trans I)
  ·rintro i k ⟨hi,J⟩ G I
   rw [c4]
   exact U.dc i k hi ((b4 i J).trans G) I
  ·rintro i k ⟨hi,J⟩ G
   rw [c4]
   obtain ⟨b,hb,eu⟩:=ev i J
   have c7:H[i]? =some k:=G
   rw [hb] at c7
   cases c7
   exact Te (fun i G I=> ⟨I,G⟩) eu (U.cM i _ hi ((b4 i J).trans G))
 refine (ez B1 w0 b7 α w c6 dy (by rw [c4];exact DJ (fun i G I=> ⟨I,G⟩) eo ep)).mono ?_
 rintro e w' ⟨y,D',α',rfl,a6,e3,b3,e2⟩
 have fc:=Mj dy a6 b3
 let b2:Nat→Prop:=fun i=>D' i∨(D i∧i ∉ r)
 let bD:Nat→Nat×Nat:=fun i=>if D i∧i ∉ r then α i else α' i
 have bx:∀ i,D' i→bD i=α' i:=by
  grind
 have b6:∀ i,D i→i ∉ r→bD i=α i:=fun i G I=>if_pos ⟨G,I⟩
 have b0:∀ i,D' i→cB h H Z (r.map fun i=>(i,false)) i=Z[i]? :=by
  intro i hi
  unfold cB
  grind
 have b1:∀ i,D i→i ∉ r→cB h H Z (r.map fun i=>(i,false)) i=h i:=by
  intro i G I
  unfold cB
  grind
 have ct:∀ b,aP b2 bD (cB h H Z (r.map fun i=>(i,false))) b↔aP D' α' (Z[·]?) b∨X b:=by
  intro b
  constructor
  ·rintro ⟨i,k,G | ⟨G,I⟩,O,ab,a1⟩
   ·rw [b0 i G] at O
    rw [bx i G] at a1
    exact .inl ⟨i,k,G,O,ab,a1⟩
   grind
  ·rintro (⟨i,k,G,I,O,ab⟩ | ⟨i,k,G,I,O,ab,a1⟩)
   ·exact ⟨i,k, .inl G,(b0 i G).trans I,O,by grind⟩
   ·exact ⟨i,k, .inr ⟨G,I⟩,(b1 i G I).trans O,ab,by grind⟩
 have eb:Own B0 b2 bD (cB h H Z (r.map fun i=>(i,false)))=Own B1 D' α' (Z[·]?):=by
  funext b
  apply propext
  constructor
  ·rintro (hb | hb)
   ·exact .inl (.inl hb)
   ·rcases (ct b).1 hb with hb | hb
    ·exact .inr hb
    ·exact .inl (.inr hb)
  ·rintro ((hb | hb) | hb)
   ·exact .inl hb
   ·exact .inr ((ct b).2 (.inr hb))
   ·exact .inr ((ct b).2 (.inl hb))
 have dx:bG D b2 α bD (aP D α h) (aP b2 bD (cB h H Z (r.map fun i=>(i,false)))) w w':=by
  refine ⟨fun i hi=> ?_,fun i hi=> ?_,fun b o G I=> ?_⟩
  ·by_cases J:i ∈ r
   ·exact .inl (b3.le i ⟨hi,J⟩)
   grind
  ·by_cases J:i ∈ r
   ·rw [bx i (b3.le i ⟨hi,J⟩)];exact b3.same i ⟨hi,J⟩
   grind
  ·have O:=b3.block b o G (fun M=>I ((a7 b).2 (.inl M)))
   grind
 have ea:eZ D' b2 α' bD (Own B1 D' α' (Z[·]?)) (Own B0 b2 bD (cB h H Z (r.map fun i=>(i,false)))) w' w':= ⟨fun i hi=> .inl hi,bx,fun b cs ty fr G I=> ⟨by simp_all,G⟩⟩
 have eN:=dx.keeps B0
 refine ⟨y,b2,bD,rfl, ⟨?_,a6.below,fun b hb=>a6.cO b (.inl hb), ?_, ?_, ?_, ?_, ?_⟩, ?_,dx,AV.Rel.mono _ _ ea e2⟩
 ·rintro i (hi | ⟨hi,J⟩)
  ·grind
  ·rw [b1 i hi J];exact U.lt i hi
 ·intro b hb M
  rcases (ct b).1 M with M | M
  ·exact a6.sep b (.inl hb) M
  ·exact U.sep b hb ((a7 b).2 (.inr M))
 ·rintro i (hi | ⟨hi,J⟩)
  ·rw [bx i hi];exact a6.fresh i hi
  ·rw [b6 i hi J]
   have:=U.fresh i hi
   omega
 ·rintro i j k l (hi | ⟨hi,J⟩) (aE | ⟨aE,b5⟩) G I O ab a1
  ·rw [b0 i hi] at G
   rw [b0 j aE] at I
   rw [bx i hi,bx j aE] at a1
   exact a6.inj i j k l hi aE G I O ab a1
  ·rw [b0 i hi] at G
   rw [b1 j aE b5] at I
   rw [bx i hi,b6 j aE b5] at a1
   exact absurd ⟨i,k,hi,G,O,rfl⟩ (a6.sep (α' i).1 (.inr ⟨j,l,aE,b5,I,ab,a1.symm⟩))
  ·rw [b1 i hi J] at G
   rw [b0 j aE] at I
   rw [b6 i hi J,bx j aE] at a1
   exact absurd ⟨j,l,aE,I,ab,rfl⟩ (a6.sep (α' j).1 (.inr ⟨i,k,hi,J,G,O,a1⟩))
  ·rw [b1 i hi J] at G
   rw [b1 j aE b5] at I
   rw [b6 i hi J,b6 j aE b5] at a1
   exact U.inj i j k l hi aE G I O ab a1
 ·rintro i k (hi | ⟨hi,J⟩) G I M
  ·rw [b0 i hi] at G
   rw [bx i hi,eb] at M
   exact a6.dc i k hi G I M
  ·rw [b1 i hi J] at G
   rw [b6 i hi J,eb,] at M
   have c0:=U.dc i k hi G I
   rcases M with (M | M) | M
   ·exact c0 (.inl M)
   ·exact c0 (.inr ((a7 _).2 (.inr M)))
   ·have eR:=(U.fresh i hi).2
    have en:=b3.block _ _ (Array.getElem?_eq_getElem eR) (fun M=>c0 (.inr ((a7 _).2 (.inl M))))
    exact en.1 M
 ·rintro i k (hi | ⟨hi,J⟩) G
  ·rw [b0 i hi] at G
   rw [bx i hi]
   exact cP.mono ea (fun o c3 _=>c3) (a6.cM i k hi G)
  ·rw [b1 i hi J] at G
   rw [b6 i hi J]
   refine cP.mono eN (fun o c3 ch=> ?_) (U.cM i k hi G)
   refine (b3.block _ o c3 (fun M=> ?_)).2
   rcases ch with ch | ch
   ·grind
   ·exact U.dc i k hi G ch (.inr ((a7 _).2 (.inl M)))
 grind
end
end Go.V
namespace Go.V
open Go Go.RowKit
section
variable {R : Type} {P : Program} {ro : Option Nat} {T : List AV} {o : Oper} {H : Hp} {k : Kn R} {r : R}
theorem PF {c:Call} {f:Operand} (aE:o.op= .call c) (J:c.callee= .value f) {a:Act} {w:World} {g:FuncId} {O U:Array Value} (Z:a.eval f= .func (.func g) O U) (G:fB P g=true):(execOp a.eval o).run P w= .ok (.enter g (O ++ c.args.map a.eval ++ U)) w:=by
 obtain ⟨a6,a1,ts⟩:=c
 simp only at J
 subst J
 unfold fB at G
 cases M:P.funcs[g]? with
 | none=>grind
 | some I=>
  rw [M] at G
  simp only [Bool.and_eq_true,Bool.not_eq_true',beq_eq_false_iff_ne] at G
  have hb:I.body.isNone=false:=by
   simp_all
  have ab : (I.name == "runtime.NumGoroutine") = false := by grind
  unfold execOp
  rw [aE]
  simp only [resolve,Z,Deferred.ofValue,Sem.run_bind,Sem.run_pure,Result.andThen,invoke,callFunc,run_program,M,ab,hb,Bool.false_eq_true,if_false]
theorem KQ {a:Act} {w:World} {g:FuncId} {zs:Array Value} {K:Act→World→Prop} {Q:Exit→Act→World→Prop} {G:Ending→World→Prop} (M:∀ c,o.op≠ .defer c) (O:(execOp a.eval o).run P w= .ok (.enter g zs) w) (I:CallsIn Fence.wide 0 P g zs w G) (U:∀ e w',G e w'→∃ y,e= .returned y∧K (a.put o.dst y) w'):o.wpIn (W ro) 0 P a w K Q:=by
 refine ⟨fun _ _=>trivial, ?_⟩
 rw [Oper.semAt_eq _ _ _ M,O,Oper.uponIn_enter]
 refine ⟨(fun h=>by cases h), ?_⟩
 have J:CallsIn (W ro) (0 - 1) P g zs w G:=I
 refine J.mono ?_
 grind
theorem Fi {D:Nat→Prop} {α:Nat→Nat×Nat} {B:Nat→Prop} {w:World} {a:Act} (G:Array Operand) (h:∀ x ∈ G,(aD T x).Rel P α B w D (a.eval x)):aj P α B w (G.toList.map (aD T)) D (G.map a.eval).toList:=by
 rw [Array.toList_map]
 exact zO _ (fun x I=>h x (Array.mem_toList_iff.1 I))
theorem CY (D:Nat→Prop) {α:Nat→Nat×Nat} {B:Nat→Prop} {w:World} :∀ (l:List Value),aj P α B w (l.map gS) D l
 | []=>rfl
 | v :: l=> ⟨v,l,rfl,toAV1_rel v,CY D l⟩
theorem Dx {I:AV} {g:FuncId} {G cap:List AV} (U:I= .clo (.func g) G cap∨∃ a b:Array Value,I= .val (.func (.func g) a b)∧G=a.toList.map gS∧cap=b.toList.map gS) {D:Nat→Prop} {α:Nat→Nat×Nat} {B:Nat→Prop} {w:World} {u:Value} (J:I.Rel P α B w D u):
  ∃ M O:Array Value,u= .func (.func g) M O∧aj P α B w G D M.toList∧aj P α B w cap D O.toList:=by
 rcases U with rfl | ⟨a,b,rfl,rfl,rfl⟩
 ·exact J
 ·exact ⟨a,b,J,CY D _,CY D _⟩
theorem Xu {c:Call} {f:Operand} (J:o.op= .call c) (O:c.callee= .value f) {g:FuncId} {I cap:List AV} (a1:aD T f= .clo (.func g) I cap∨∃ a b:Array Value,aD T f= .val (.func (.func g) a b)∧I=a.toList.map gS∧cap=b.toList.map gS) (a7:fB P g=true) {v:AV} {G:Hp}
  (ab:dg P g (I ++ c.args.toList.map (aD T) ++ cap) H v G) (B0:Nat→Prop) (w0:World):o8 P B0 w0 ro T o (H[·]?) (H[·]?) H.length G.length v (G[·]?) true:=by
 intro ro D α a w K Q U b7 M b6
 have bx:∀ c,o.op≠ .defer c:=fun c h=>by grind
 have a6:f ∈ o.op.operands:=by rw [J];simp [Op.operands,Call.operands,O]
 obtain ⟨ch,ct,aE,bD,b0⟩:=Dx a1 (M f a6)
 have Z:=Fi (P:=P) (T:=T) (D:=D) (α:=α) (B:=Own B0 D α (H[·]?)) (w:=w) (a:=a) c.args (fun x b1=>M x (by rw [J];simp only [Op.operands,Call.operands,Array.mem_append];exact .inr b1))
 refine KQ bx (PF J O aE a7) (ab B0 w0 D α w _ U (by rw [Array.toList_append,Array.toList_append];exact aj.append (aj.append bD Z) b0)) ?_
 rintro e w' ⟨y,D',α',rfl,b2,b3,b4,b5⟩
 grind
theorem Xv {c:Call} {f:Operand} (M:o.op= .call c) (J:c.callee= .value f) {i:Nat} (b1:aD T f= .yld i) {v:AV} {G:Hp} (bD:Kp P i (c.args.toList.map (aD T)) H v G) (B0:Nat→Prop) (w0:World):o8 P B0 w0 ro T o (H[·]?) (H[·]?) H.length G.length v (G[·]?) true:=by
 intro ro D α a w K Q a1 c4 ab c3
 have b3:∀ c,o.op≠ .defer c:=fun c h=>by grind
 have b2:f ∈ o.op.operands:=by rw [M];simp [Op.operands,Call.operands,J]
 have I:=ab f b2
 rw [b1] at I
 obtain ⟨hi,b0⟩:=I
 have bx:=Fi (P:=P) (T:=T) (D:=D) (α:=α) (B:=Own B0 D α (H[·]?)) (w:=w) (a:=a) c.args (fun x b5=>ab x (by rw [M];simp only [Op.operands,Call.operands,Array.mem_append];exact .inr b5))
 obtain ⟨Z,aE,O,U,c5,a6⟩:=bD B0 w0 D α w (c.args.map a.eval) a1 hi bx
 have b4:(execOp a.eval o).run P w= .ok (.round (α i).1 Z aE O U) w:=by
  obtain ⟨b7,b6,ts⟩:=c
  simp only at J
  subst J
  unfold execOp
  rw [M]
  simp only [resolve,b0,Deferred.ofValue,Sem.run_bind,Sem.run_pure,Result.andThen,invoke,Array.empty_append]
  grind
 refine ⟨fun _ _=>trivial, ?_⟩
 rw [Oper.semAt_eq _ _ _ b3,b4,Oper.uponIn_round]
 refine ⟨(fun h=>by cases h), ?_⟩
 have a7:RoundIn (W ro) (0 - 1) P (α i).1 Z aE O U w (ta P B0 w0 D α (H[·]?) w H.length G.length v (G[·]?)):=a6
 refine a7.mono ?_
 rintro e w' ⟨y,D',α',rfl,I,ch,ct,c0⟩
 grind
theorem bm.all {O:Tch} {lo:Nat} (h:bm P ro T o H O lo k r):bm P ro T o H .all lo k r:=by
 obtain ⟨v,I,J,M,G⟩:=h
 exact ⟨v,I,J,M,fun B0 w0=> ⟨(G B0 w0).1,(G B0 w0).ui⟩⟩
theorem Mo {v:AV} {I:Hp} (b6:H.length≤I.length) (ch:∀ m,m < H.length→I[m]? =H[m]?) (b5:∀ B0 w0,o8 P B0 w0 ro T o (H[·]?) (H[·]?) H.length I.length v (I[·]?) true) (B0:Nat→Prop) (w0:World):mF P B0 w0 ro T o H v I (.some true []):=by
 refine ⟨b6,fun m b7 _=>ch m b7,fun h c3 ro D α a w K Q O a6 c0 bD=> ?_⟩
 have c4:∀ i,D i→i < H.length:=fun i hi=>by
  rcases Nat.lt_or_ge i H.length with h | h
  ·exact h
  ·exact absurd hi (a6.1 i h (.inr rfl))
 have U:∀ i,D i→h i=H[i]? :=fun i hi=>a6.2 rfl i hi
 have a7:∀ b,aP D α h b↔aP D α (H[·]?) b:=by
  intro b
  constructor
  ·rintro ⟨i,k,G,J,M⟩;exact ⟨i,k,G,(U i G).symm.trans J,M⟩
  ·rintro ⟨i,k,G,J,M⟩;exact ⟨i,k,G,(U i G).trans J,M⟩
 have b1:aP D α h=aP D α (H[·]?):=funext fun b=>propext (a7 b)
 have b3:Own B0 D α h=Own B0 D α (H[·]?):=by funext b;unfold Own;rw [b1]
 have b0:Ok P B0 w0 D α (H[·]?) w:=by
  refine ⟨fun i hi=> ?_,O.below,O.cO,fun b hb ab=>O.sep b hb ((a7 b).2 ab),O.fresh,fun i j k l hi aE G J=> ?_,fun i k hi G J ab=> ?_,fun i k hi G=> ?_⟩
  ·grind
  ·exact O.inj i j k l hi aE ((U i hi).trans G) ((U j aE).trans J)
  ·exact O.dc i k hi ((U i hi).trans G) J (by simp_all)
  ·rw [← b3];exact O.cM i k hi ((U i hi).trans G)
 refine b5 B0 w0 ro D α a w K Q b0 ⟨fun i hi _=>a6.1 i hi (.inr rfl),fun _ _ _=>rfl⟩ (fun x c5=>by grind) (fun D' α' w' x G J M ct=> ?_)
 have Z:∀ i,D' i→cB h H I [] i=I[i]? :=by
  intro i hi
  unfold cB
  grind
 have bx:∀ b,aP D' α' (cB h H I []) b↔aP D' α' (I[·]?) b:=by
  intro b
  constructor
  ·rintro ⟨i,k,G,J,M⟩;exact ⟨i,k,G,(Z i G).symm.trans J,M⟩
  ·rintro ⟨i,k,G,J,M⟩;exact ⟨i,k,G,(Z i G).trans J,M⟩
 have b2:aP D' α' (cB h H I [])=aP D' α' (I[·]?):=funext fun b=>propext (bx b)
 have b4:Own B0 D' α' (cB h H I [])=Own B0 D' α' (I[·]?):=by funext b;unfold Own;rw [b2]
 refine bD D' α' w' x ⟨fun i hi=> ?_,G.below,G.cO,fun b hb ab=>G.sep b hb ((bx b).1 ab),G.fresh,fun i j k l hi aE e1 a1=> ?_,fun i k hi e1 a1 ab=> ?_,fun i k hi e1=> ?_⟩ J (by grind) (by grind)
 ·grind
 ·exact G.inj i j k l hi aE ((Z i hi).symm.trans e1) ((Z j aE).symm.trans a1)
 ·exact G.dc i k hi ((Z i hi).symm.trans e1) a1 (by simp_all)
 ·rw [b4];exact G.cM i k hi ((Z i hi).symm.trans e1)
theorem afr {x:Cx R} (a7:fp x) (b6:x.P=P) {c:Call} {f:Operand} (a1:o.op= .call c) (ab:c.callee= .value f) (h:F8 x (aD T f) (c.args.toList.map (aD T)) H k=some r):
  bm P ro T o H .all x.lo k r∧(x.lo=H.length→bm P ro T o H (fm x.E T H c) x.lo k r):=by
 subst b6
 have b3:fm x.E T H c=AH H (funcOf (aD T f)) (c.args.toList.map (aD T)):=by
  unfold fm
  rw [ab]
 have bD:∀ {g:FuncId} {I cap:List AV},funcOf (aD T f)=some (g,I,cap)→(aD T f= .clo (.func g) I cap∨∃ a b:Array Value,aD T f= .val (.func (.func g) a b)∧I=a.toList.map gS∧cap=b.toList.map gS)→tB x g (I ++ c.args.toList.map (aD T) ++ cap) H k=some r→
   bm x.P ro T o H .all x.lo k r∧(x.lo=H.length→bm x.P ro T o H (fm x.E T H c) x.lo k r):=by
  intro g I cap c3 b1 ch
  obtain ⟨b2,v,U,J,M,G,a6,ec⟩:=Uy a7 ch
  have aE:=fun B0 w0=>Xu (ro:=ro) a1 ab b1 b2 a6 B0 w0
  refine ⟨⟨v,U,J,G,fun B0 w0=> ⟨M,aE B0 w0⟩⟩,fun c5=> ?_⟩
  rw [b3,c3]
  unfold AH H6
  simp only
  cases bx:tG (reach H 60 (fy (I ++ c.args.toList.map (aD T) ++ cap)) []) (I ++ c.args.toList.map (aD T) ++ cap) H with
  | false=>exact ⟨v,U,J,G,fun B0 w0=>Mo M (fun m Z=>G (by omega) m (by omega)) aE B0 w0⟩
  | true=>
   simp only [cond]
   generalize reach H 60 (fy (I ++ c.args.toList.map (aD T) ++ cap)) []=eb at bx
   refine ⟨v,U,J,G,fun B0 w0=> ⟨M,fun m Z _=>G (by omega) m (by omega),fun h c4 ro D α a w K Q b5 c7 b0 ed=> ?_⟩⟩
   have c6:∀ c,o.op≠ .defer c:=fun c h=>by grind
   have c0:f ∈ o.op.operands:=by rw [a1];simp [Op.operands,Call.operands,ab]
   obtain ⟨eg,eh,ct,dx,dy⟩:=Dx b1 (b0 f c0)
   have b7:=Fi (P:=x.P) (T:=T) (D:=D) (α:=α) (B:=Own B0 D α h) (w:=w) (a:=a) c.args (fun x a7=>b0 x (by rw [a1];simp only [Op.operands,Call.operands,Array.mem_append];exact .inr a7))
   have ea:∀ i ∈ eb,i < H.length:=by
    intro i hi
    unfold tG at bx
    grind
   refine KQ c6 (PF a1 ab ct b2) (UA a6 (fun m Z=>G (by omega) m (by omega)) bx B0 w0 D α h w _ (fun m Z=>c4 m ⟨false,List.mem_map.2 ⟨m,Z,rfl⟩⟩ (ea m Z)) b5 (fun i J M=>c7.1 i J (.inl M)) (by rw [Array.toList_append,Array.toList_append];exact aj.append (aj.append dx b7) dy)) ?_
   grind
 unfold F8 at h
 split at h
 ·rename_i v O
  split at h
  ·rename_i b4 a b
   split at h
   ·rename_i g
    exact bD (by rw [O];rfl) (.inr ⟨a,b,O,rfl,rfl⟩) h
   ·cases h
  ·cases h
 ·rename_i b4 a b O
  split at h
  ·rename_i g
   exact bD (by rw [O];rfl) (.inl O) h
  ·cases h
 ·rename_i i O
  obtain ⟨v,U,J,M,G,a6⟩:=a7.yf x.lo i _ H k r h
  have aE:=fun B0 w0=>Xv (ro:=ro) a1 ab O a6 B0 w0
  refine ⟨⟨v,U,J,G,fun B0 w0=> ⟨M,aE B0 w0⟩⟩,fun c5=> ?_⟩
  rw [b3,O]
  exact ⟨v,U,J,G,fun B0 w0=>Mo M (fun m Z=>G (by omega) m (by omega)) aE B0 w0⟩
 ·cases h
theorem ae3 {x:Cx R} (b0:fp x) (O:x.P=P) {c:Call} (I:o.op= .call c) (h:FX x T o c H k=some r):
  bm P ro T o H .all x.lo k r∧(x.lo=H.length∨ox o.op=false→bm P ro T o H (fm x.E T H c) x.lo k r):=by
 have two:∀ {Z:Tch},bm P ro T o H Z x.lo k r→fm x.E T H c=Z→bm P ro T o H .all x.lo k r∧(x.lo=H.length∨ox o.op=false→bm P ro T o H (fm x.E T H c) x.lo k r):=by
  intro Z a1 M
  rw [M]
  exact ⟨a1.all,fun _=>a1⟩
 have U:∀ c,o.op≠ .defer c:=fun c h=>by grind
 unfold FX at h
 split at h
 ·rename_i f G
  unfold PZ at h
  split at h
  ·rename_i v ab
   rw [O] at ab
   have M:∃ rd l,fm x.E T H c= .some rd l∧∀ m,(m,true) ∉ l:=by
    unfold fm
    rw [G]
    simp only
    unfold AH
    split
    ·unfold H6
     rw [Bool.cond_eq_ite]
     split
     ·grind
     grind
    grind
   obtain ⟨rd,l,M,bx⟩:=M
   exact two (ae8 I G ab h rd bx) M
  obtain ⟨a6,a7⟩:=afr (ro:=ro) b0 O I G h
  refine ⟨a6,fun bD=>a7 (bD.resolve_right (fun aE=> ?_))⟩
  rw [I] at aE
  obtain ⟨b2,b1,ts⟩:=c
  simp only at G
  subst G
  simp [ox] at aE
 ·rename_i b G
  have J:b≠ .append→b≠ .unsafeString→b≠ .clear→fm x.E T H c= .some false []:=by
   intro hb b3 b4
   unfold fm
   grind
  unfold PY at h
  rw [O] at h
  split at h
  ·exact two (aff I G h) (J (by simp) (by simp) (by simp))
  ·exact two (step_append (E:=x.E) I G h) rfl
  ·exact two (ae7 I G h) (J (by simp) (by simp) (by simp))
  ·exact two (afq I G h) (by unfold fm;grind)
  ·exact two (ae4 I G h) (by unfold fm;rw [G];rfl)
  ·exact two (qH U h) (J (by simp) (by simp) (by simp))
  ·exact two (qH U h) (J (by simp) (by simp) (by simp))
  ·exact two (qH U h) (J (by simp) (by simp) (by simp))
  ·cases h
 ·cases h
theorem afo {x:Cx R} (aE:fp x) (J:x.P=P) (h:F5 x T o H k=some r):
  bm P ro T o H .all x.lo k r∧(x.lo=H.length∨ox o.op=false→bm P ro T o H (cU x.E T H o) x.lo k r):=by
 have two:∀ {I:Tch},bm P ro T o H I x.lo k r→cU x.E T H o=I→bm P ro T o H .all x.lo k r∧(x.lo=H.length∨ox o.op=false→bm P ro T o H (cU x.E T H o) x.lo k r):=by
  intro I M ab
  rw [ab]
  exact ⟨M.all,fun _=>M⟩
 unfold F5 at h
 rw [J] at h
 split at h
 ·rename_i G;exact two (Qq (.inl G) h) (by unfold cU;rw [G])
 ·rename_i G;exact two (Qq (.inr G) h) (by unfold cU;rw [G])
 ·rename_i G;exact two (afk G h) (by unfold cU;rw [G])
 ·rename_i G;exact two (aeW G h) (by unfold cU;rw [G])
 ·rename_i G;exact two (ae0 G h) (by unfold cU;rw [G])
 ·rename_i G;exact two (ae1 G h) (by unfold cU;rw [G])
 ·rename_i G;exact two (ae2 G h) (by unfold cU;rw [G])
 ·rename_i G;exact two (afg G h) (by unfold cU;rw [G])
 ·rename_i G;exact two (afp G h) (by unfold cU;rw [G])
 ·rename_i G;exact two (afa G h) (by unfold cU;rw [G])
 ·rename_i G;exact two (afb G h) (by unfold cU;rw [G])
 ·rename_i G;exact two (afe G h) (by unfold cU;rw [G])
 ·rename_i G;exact two (afd G h) (by unfold cU;rw [G])
 ·rename_i G;exact two (afn G h) (by unfold cU;rw [G])
 ·rename_i G;exact two (ae6 G h) (by unfold cU;rw [G])
 ·rename_i G;exact two (afh G h) (by unfold cU;rw [G])
 ·rename_i G;exact two (afi G h) (by unfold cU;rw [G])
 ·rename_i G;exact two (afj G h) (by unfold cU;rw [G])
 ·rename_i G;exact two (aeZ G h) (by unfold cU;rw [G])
 ·rename_i G;exact two (ae9 G h) (by unfold cU;rw [G])
 ·rename_i c G
  obtain ⟨O,U⟩:=ae3 (ro:=ro) aE J G h
  exact ⟨O,fun Z=>by have:=U Z;unfold cU;grind⟩
 ·rename_i G;exact two (qH (fun c h=>by grind) h) (by unfold cU;rw [G])
 ·cases h
end
end Go.V
namespace Go.V
open Go Go.RowKit
section
variable {ops : Array Oper}
structure Order (ops:Array Oper) (m:Nat) (c:Nat→List Nat):Prop where
 le:m≤ops.size
 tail:∀ d,d < ops.size→m≤d→∀ i,i < d→i ∈ c d
 um:∀ d,d < ops.size→∃ o,ops[d]? =some o∧(∀ e ∈ gU o,e < d)∧∀ i ∈ c d,i ∈ gU o∨∃ e ∈ gU o,i ∈ c e
 head:∀ i,i < m→∃ o,ops[i]? =some o∧∀ j,j < m→∃ o',ops[j]? =some o'∧(i=j∨o.dst=none∨o.dst≠o'.dst)∧∀ t,o'.dst=some t→t ∈ o.looksAt ops→j ∈ c i∨i ∈ c j
theorem aca (h:C5 ops=true):Order ops (cD ops) (fun d=>(mN ops.toList).getD d []):=by
 unfold C5 at h
 simp only [Bool.and_eq_true,beq_iff_eq,decide_eq_true_eq] at h
 obtain ⟨⟨⟨⟨ab,G⟩,I⟩,U⟩,J⟩:=h
 simp only [Array.length_toList] at ab G I U J
 have a1:DF (mN ops.toList) ops.size=cD ops:=rfl
 rw [a1] at G I J
 generalize mN ops.toList=c at*
 generalize cD ops=m at*
 have O:∀ i:Nat,ops.toList[i]? =ops[i]? :=fun i=>Array.getElem?_toList
 refine ⟨I, ?_, ?_, ?_⟩
 ·intro d M a6 i hi
  unfold GY at G
  have:=List.all_eq_true.1 G d (List.mem_range.2 M)
  rw [Bool.or_eq_true,decide_eq_true_eq] at this
  rcases this with this | this
  ·omega
  ·exact List.contains_iff_mem.1 (List.all_eq_true.1 this i (List.mem_range.2 hi))
 ·intro d M
  have:=List.all_eq_true.1 U d (List.mem_range.2 M)
  rw [O] at this
  cases Z:ops[d]? with
  | none=>grind
  | some o=>
   grind
 ·intro i hi
  have:=List.all_eq_true.1 J i (List.mem_range.2 hi)
  rw [O] at this
  cases Z:ops[i]? with
  | none=>grind
  | some o=>
   rw [Z] at this
   refine ⟨o,rfl,fun j aE=> ?_⟩
   have:=List.all_eq_true.1 this j (List.mem_range.2 aE)
   rw [O] at this
   cases a7:ops[j]? with
   | none=>grind
   | some bx=>
    grind
variable {m : Nat} {c : Nat → List Nat}
theorem Order.lt (h:Order ops m c):∀ d,d < ops.size→∀ i ∈ c d,i < d:=by
 intro d
 induction d using Nat.strongRecOn with
 | _ d O=>
  intro G i hi
  obtain ⟨o,M,I,J⟩:=h.um d G
  grind
def tj (ops:Array Oper) (b:Nat→Bool):Prop:=∀ d o,ops[d]? =some o→b d=true→∀ e ∈ gU o,b e=true
theorem Order.up (h:Order ops m c) {b:Nat→Bool} (hb:tj ops b):∀ d,d < ops.size→(∀ o,ops[d]? =some o→∀ e ∈ gU o,b e=true)→∀ i ∈ c d,b i=true:=by
 intro d
 induction d using Nat.strongRecOn with
 | _ d a1=>
  intro O U i hi
  obtain ⟨o,ab,I,J⟩:=h.um d O
  rcases J i hi with G | ⟨e,G,M⟩
  ·grind
  ·have Z:=I e G
   exact a1 e Z (by omega) (fun a6 aE=>hb e a6 aE (U o ab e G)) i M
def lb (listed:Array Bool) (j:Nat):Bool:=listed.getD j false
theorem wg {listed:Array Bool} (Z:listed.size=ops.size) (i:Nat):i ∈ Region.ready .any ops listed↔∃ o,ops[i]? =some o∧lb listed i=false∧∀ e ∈ gU o,lb listed e=true:=by
 unfold Region.ready
 rw [List.mem_filter,List.mem_range]
 constructor
 ·rintro ⟨hi,h⟩
  rw [Bool.and_eq_true] at h
  have I:ops[i]? =some ops[i]:=Array.getElem?_eq_getElem hi
  refine ⟨ops[i],I, ?_, ?_⟩
  ·have O:=h.1
   unfold lb
   grind
  ·have G:=h.2
   rw [I] at G
   simp only [Option.map_some,Option.getD_some,Array.all_eq_true_iff_forall_mem,Bool.or_eq_true,Bool.not_eq_true'] at G
   intro e J
   unfold gU at J
   rw [List.mem_map] at J
   obtain ⟨x,M,rfl⟩:=J
   rw [List.mem_filter] at M
   rcases G x (Array.mem_toList_iff.1 M.1) with U | U
   ·grind
   ·exact U
 ·rintro ⟨o,I,O,G⟩
  have hi:i < ops.size:=(Array.getElem?_eq_some_iff.1 I).1
  refine ⟨hi, ?_⟩
  rw [Bool.and_eq_true,I]
  constructor
  ·unfold lb at O
   grind
  ·simp only [Option.map_some,Option.getD_some,Array.all_eq_true_iff_forall_mem,Bool.or_eq_true,Bool.not_eq_true']
   intro x M
   cases hb:Region.binds .any x with
   | false=>grind
   | true=>
    refine .inr (G x.on ?_)
    unfold gU
    grind
theorem DS {listed:Array Bool} {i:Nat} (hi:i < listed.size) (j:Nat):lb (listed.setIfInBounds i true) j=if j=i then true else lb listed j:=by
 unfold lb
 rw [Array.getD_eq_getD_getElem?,Array.getD_eq_getD_getElem?]
 grind
theorem UR {listed:Array Bool} (ab:listed.size=ops.size) (G:tj ops (lb listed)) {i:Nat} {o:Oper} (Z:ops[i]? =some o) (U:∀ e ∈ gU o,lb listed e=true):tj ops (lb (listed.setIfInBounds i true)):=by
 have hi:i < listed.size:=by grind
 intro d O I hb e M
 rw [DS hi] at hb ⊢
 by_cases h:e=i
 ·rw [if_pos h]
 ·rw [if_neg h]
  by_cases J:d=i
  ·grind
  ·rw [if_neg J] at hb
   exact G d O I hb e M
def left (n:Nat) (b:Nat→Bool):Nat:=((List.range n).filter fun j=> !b j).length
theorem ZT {n i:Nat} {b G:Nat→Bool} (hi:i < n) (hb:b i=false) (J:∀ j,G j=if j=i then true else b j):left n b=left n G+1:=by
 unfold left
 induction n with
 | zero=>omega
 | succ n M=>
  rw [List.range_succ,List.filter_append,List.filter_append,List.length_append,List.length_append]
  by_cases I:i=n
  ·subst I
   have e1:(List.range i).filter (fun j=> !b j)=(List.range i).filter (fun j=> !G j):=by
    apply List.filter_congr
    grind
   grind
  grind
end
noncomputable def iz (T:List AV) (ops:Array Oper) (j:Nat):Option Bool:=
 match (ops[j]?).bind (·.dst) with
 | some d=>match al T d with
  | .val (.bool b)=>some b
  | _=>none
 | none=>none
section
variable {R : Type} {P : Program} {B0 : Nat → Prop} {w0 : World} {F : Fr} {ro : Option Nat} {ops : Array Oper}
theorem M0 {T:List AV} {d:Nat} (h:T[d]? =none):al T d= .any:=by rw [yR,h];rfl
theorem yS {T:List AV} {d:Nat} {v:AV} (h:T[d]? =some v):al T d=v:=by rw [yR,h];rfl
theorem fix_eq {T:List AV} {d:Nat} {b:Bool} (h:al T d= .val (.bool b)):oq T d b=T:=by
 unfold oq
 rw [Eb]
 rw [yR] at h
 apply List.ext_getElem?
 grind
def xi (P:Program) (α:Nat→Nat×Nat) (B:Nat→Prop) (w:World) (D:Nat→Prop) (T:List AV) (G:Array Value) (d:Nat):Prop:=(T[d]? =none∧G[d]? =none)∨∃ v x,T[d]? =some v∧G[d]? =some x∧v.Rel P α B w D x
theorem Ro {α:Nat→Nat×Nat} {B:Nat→Prop} {w:World} {D:Nat→Prop} {T:List AV} {O:Array Value} {j:Nat}
  (h:∀ d,(ops[j]?).bind (·.dst)=some d→xi P α B w D T O d) (Z:∀ d,(ops[j]?).bind (·.dst)=some d→∃ v,al T d= .val v):yielded ops O j=iz T ops j:=by
 unfold yielded iz
 cases M:(ops[j]?).bind (·.dst) with
 | none=>rfl
 | some d=>
  obtain ⟨v,I⟩:=Z d M
  rcases h d M with ⟨G,J⟩ | ⟨u,x,G,J,U⟩
  ·rw [M0 G] at I;cases I
  ·rw [yS G] at I
   subst I
   rw [show x=v from U] at J
   simp only [Option.bind_some,J,yS G]
   grind
theorem aj.slot {α:Nat→Nat×Nat} {B:Nat→Prop} {w:World} {D:Nat→Prop} {T:List AV} {J:Array Value} (h:aj P α B w T D J.toList) (d:Nat):xi P α B w D T J d:=by
 cases I:T[d]? with
 | none=>
  left
  have:=aj.len h
  grind
 | some v=>
  obtain ⟨x,G,M⟩:=aj.get h I
  rw [Array.getElem?_toList] at G
  exact .inr ⟨v,x,I,G,M⟩
theorem ur {α:Nat→Nat×Nat} {B:Nat→Prop} {w:World} {D:Nat→Prop} {T:List AV} {a:Act} (x:Operand) (h:∀ d,x= .tmp d→xi P α B w D T a.tmps d):(aD T x).Rel P α B w D (a.eval x):=by
 cases x with
 | tmp d=>
  show (al T d).Rel P α B w D (a.tmps.getD d undef)
  rcases h d rfl with ⟨G,I⟩ | ⟨v,y,G,I,J⟩
  ·rw [M0 G];trivial
  ·rw [yS G,Array.getD_eq_getD_getElem?,I];exact J
 | const v=>exact toAV1_rel v
 | global g=>rfl
 | func f=>rfl
theorem zK (G:Option Tmp) (v:AV) (T:List AV):kD G v T=(match G with | some d=>T.set d v | none=>T):=by
 cases G with
 | none=>rfl
 | some d=>exact Eb T d v
theorem PQ {D D':Nat→Prop} {α α':Nat→Nat×Nat} {h h':Hf} {T:List AV} {a:Act} {w w':World} (a7:w0.heap.size≤F.w.heap.size) (U:Marks F.w.heap.size w a.defers) (Z:Ok P B0 w0 D α h w) (ab:aj P α (Own B0 D α h) w T D a.tmps.toList) (O:bG F.D D F.α α F.C (aP D α h) F.w w)
  (J:Ok P B0 w0 D' α' h' w') (I:bG D D' α α' (aP D α h) (aP D' α' h') w w') (a1:∀ i,D' i→i < F.n→F.D i) (G:Option Tmp) {v:AV} {x:Value} (a6:v.Rel P α' (Own B0 D' α' h') w' D' x):cJ P B0 w0 F (kD G v T) h' (a.put G x) w':=by
 have aE:(a.put G x).defers=a.defers:=by cases G <;> rfl
 refine ⟨by rw [aE];exact U.mono Z J I,D',α',J, ?_,O.trans I,a1⟩
 have M:=aj.mono _ _ (I.keeps B0) ab
 rw [zK]
 cases G with
 | none=>exact M
 | some d=>
  show aj P α' (Own B0 D' α' h') w' (T.set d v) D' (a.tmps.setIfInBounds d x).toList
  rw [Array.toList_setIfInBounds]
  exact aj.set M d a6
theorem Rg {Q:Exit→Act→World→Prop} {i:Nat} {o:Oper} {K:Act→World→Prop} {a:Act} {w:World} (hi:ops[i]? =some o)
  (J:Region.wanted o (yielded ops a.tmps)=true→o.wpIn (W ro) 0 P a w K Q) (G:Region.wanted o (yielded ops a.tmps)=false→K (a.put o.dst undef) w):wpOpIn (W ro) 0 P ops Q i K a w:=by
 unfold wpOpIn
 simp only [hi]
 cases I:Region.wanted o (yielded ops a.tmps) with
 | true=>grind
 | false=>simp only [Bool.false_eq_true,if_false];exact ⟨fun _ _=>trivial,G I⟩
def w9 (T:List AV) (ops:Array Oper) (o:Oper):Prop:=∀ j G,o.guard=some (j,G)→∀ d,(ops[j]?).bind (·.dst)=some d→∃ v,al T d= .val v
def One (P : Program) (ops : Array Oper) (J : Bool) (o : Oper) (T : List AV) (H : Hp) (lo : Nat) (v : AV) (G : Hp) (I : Tch × Nat × Nat) : Prop :=
  H.length ≤ G.length ∧ (lo ≤ H.length → ∀ m, m < lo → G[m]? = H[m]?) ∧ w9 T ops o ∧
  ((Region.wanted o (iz T ops) = true ∧ I.2 = (H.length, G.length) ∧ (∀ B0 w0, o8 P B0 w0 none T o (H[·]?) (H[·]?) H.length G.length v (G[·]?) true) ∧ (J = true → ∀ B0 w0, mF P B0 w0 none T o H v G I.1)) ∨
   (Region.wanted o (iz T ops) = false ∧ v = .val undef ∧ G = H ∧ I = (.some false [], H.length, H.length)))
theorem FF {x:Cx R} (M:fp x) (b4:x.P=P) {G:Bool} {o:Oper} {T:List AV} {H:Hp} {aE:Tl} {Z:Lk R} {r:R} (h:uC x G o T H aE Z=some r) (O:w9 T ops o) (U:Region.wanted o (iz T ops)=true):∃ v J ab,Z (kD o.dst v T) J (ab :: aE)=some r∧One P ops G o T H x.lo v J ab:=by
 unfold uC at h
 have b2:fp (iK x G o H):=by
  unfold iK
  cases G&&ox o.op <;> exact ⟨M.C,M.cf,M.yf⟩
 have bx:(iK x G o H).P=P:=by
  unfold iK
  grind
 have a7:(iK x G o H).E=x.E:=by
  unfold iK
  grind
 obtain ⟨a1,a6⟩:=afo (ro:=none) b2 bx h
 cases G with
 | false=>
  have b0:(iK x false o H).lo=x.lo:=rfl
  obtain ⟨v,J,k1,b3,I⟩:=a1
  exact ⟨v,J,_,k1,(I (fun _=>False) default).1,by grind,O, .inl ⟨U,rfl,fun B0 w0=>(I B0 w0).ui,fun h=>by cases h⟩⟩
 | true=>
  have b1:(iK x true o H).lo=H.length∨ox o.op=false:=by
   unfold iK
   grind
  obtain ⟨v,J,k1,b3,I⟩:=a6 b1
  rw [a7] at I
  have bD:=(I (fun _=>False) default).1
  refine ⟨v,J,_,k1,bD,fun b5 m b6=> ?_,O, .inl ⟨U,rfl,fun B0 w0=>(I B0 w0).ui,fun _ B0 w0=>I B0 w0⟩⟩
  have b0:(iK x true o H).lo=x.lo∨(iK x true o H).lo=H.length:=by
   unfold iK
   grind
  grind
theorem Dr {x:Cx R} (a6:fp x) (ab:x.P=P) {aE:Bool} {o:Oper} {T:List AV} {H:Hp} {O:Tl} {M:Lk R} {r:R} (h:DQ x ops aE o T H O M=some r):∃ v G I,M (kD o.dst v T) G (I :: O)=some r∧One P ops aE o T H x.lo v G I:=by
 unfold DQ at h
 have skip:∀ {Z:List AV},Z=T→Region.wanted o (iz T ops)=false→w9 T ops o→yK o Z H O M=some r→∃ v G I,M (kD o.dst v T) G (I :: O)=some r∧One P ops aE o T H x.lo v G I:=by
  rintro Z rfl bx J h
  exact ⟨_,H,_,h,Nat.le_refl _,fun _ _ _=>rfl,J, .inr ⟨bx,rfl,rfl,rfl⟩⟩
 split at h
 ·rename_i a1
  exact FF (ops:=ops) a6 ab h (fun j U e=>by grind) (by rw [Region.wanted,a1])
 ·rename_i b1 a1
  obtain ⟨j,U⟩:=b1
  have bx:Region.wanted o (iz T ops)=(iz T ops j==some U):=by rw [Region.wanted,a1]
  split at h
  ·rename_i d b4
   unfold MD at h
   split at h
   ·rename_i v bD
    have J:w9 T ops o:=by
     intro b6 b7 e b2 b3
     grind
    split at h
    ·rename_i b
     have b0:iz T ops j=some b:=by unfold iz;grind
     have a7:oq T d b=T:=fix_eq bD
     cases b with
     | true=>
      cases U with
      | true=>
       simp only [cond] at h
       rw [a7] at h
       exact FF (ops:=ops) a6 ab h J (by grind)
      | false=>grind
     | false=>
      cases U with
      | true=>grind
      | false=>
       simp only [cond] at h
       rw [a7] at h
       exact FF (ops:=ops) a6 ab h J (by grind)
    ·rename_i b5
     have b0:iz T ops j=none:=by
      unfold iz
      grind
     grind
   ·cases h
  ·cases h
end
end Go.V
namespace Go.V
open Go Go.RowKit
section
variable {R : Type} {P : Program} {B0 : Nat → Prop} {w0 : World} {F : Fr} {ro : Option Nat} {ops : Array Oper}
theorem YO {D:Nat→Prop} {α:Nat→Nat×Nat} {w:World} {H:Hp} {J:Nat} (I:Ok P B0 w0 D α (H[·]?) w):Jr D (H[·]?) (H[·]?) H.length J true:=
 ⟨fun i hi _ G=>by obtain ⟨k,M⟩:=I.lt i G;grind,fun _ _ _=>rfl⟩
theorem NP {J:Bool} {i:Nat} {o:Oper} {T:List AV} {H:Hp} {lo:Nat} {v:AV} {O:Hp} {b5:Tch×Nat×Nat} (hi:ops[i]? =some o) (h:One P ops J o T H lo v O b5) (a6:w0.heap.size≤F.w.heap.size) (b7:F.n≤H.length) {a:Act} {w:World} (b1:cJ P B0 w0 F T (H[·]?) a w) {K:Act→World→Prop} {Q:Exit→Act→World→Prop}
  (ab:∀ U w',cJ P B0 w0 F (kD o.dst v T) (O[·]?) U w'→K U w'):wpOpIn (W ro) 0 P ops Q i K a w:=by
 obtain ⟨aE,D,α,G,I,Z,a1⟩:=b1
 obtain ⟨_,_,bD,h⟩:=h
 have ch:Region.wanted o (yielded ops a.tmps)=Region.wanted o (iz T ops):=by
  unfold Region.wanted
  cases M:o.guard with
  | none=>rfl
  | some b4=>obtain ⟨j,b6⟩:=b4;simp only [Ro (fun d _=>aj.slot I d) (fun d J=>bD j b6 M d J)]
 refine Rg hi (fun b3=> ?_) (fun b3=> ?_)
 ·rcases h with ⟨_,_,h,_⟩ | ⟨h,_⟩
  ·refine h B0 w0 ro D α a w _ _ G (YO G) (fun x _=>ur x (fun d _=>aj.slot I d)) ?_
   intro D' α' w' x bx a7 M b2
   exact ab _ _ (PQ a6 aE G I Z bx M (fun i hi b0=>(a7 i hi).elim (fun h=>a1 i h b0) (fun h=>by omega)) o.dst b2)
  grind
 ·rcases h with ⟨h,_⟩ | ⟨_,rfl,rfl,_⟩
  ·grind
  ·exact ab _ _ (PQ a6 aE G I Z G (bG.refl _ _ _ _) a1 o.dst rfl)
theorem LR {x:Cx R} (b1:fp x) (a1:x.P=P):∀ (l:List (Bool×Oper)) (J:List Nat) (T:List AV) (H:Hp) (Z:Tl) (k:Lk R) (r:R),l.length=J.length→(∀ (j i:Nat) (o:Bool×Oper),J[j]? =some i→l[j]? =some o→ops[i]? =some o.2)→lS x ops l T H Z k=some r→
  ∃ M G ex,k M G (ex ++ Z)=some r∧H.length≤G.length∧(x.lo≤H.length→∀ m,m < x.lo→G[m]? =H[m]?)∧∀ (ro:Option Nat) (B0:Nat→Prop) (w0:World) (F:Fr) (Q:Exit→Act→World→Prop),w0.heap.size≤F.w.heap.size→F.n≤H.length→∀ a w,cJ P B0 w0 F T (H[·]?) a w→(∀ O w',cJ P B0 w0 F M (G[·]?) O w'→Q .normal O w')→wpOpsIn (W ro) 0 P ops Q J a w
 | [], [],T,H,Z,k,r,_,_,h=> ⟨T,H, [],h,Nat.le_refl _,fun _ _ _=>rfl,fun ro B0 w0 F Q _ _ a w aE ab=>ab a w aE⟩
 | [],_ :: _,_,_,_,_,_,U,_,_=>by simp at U
 | _ :: _, [],_,_,_,_,_,U,_,_=>by simp at U
 | o :: l,i :: J,T,H,Z,k,r,U,a7,h=>by
  unfold lS at h
  obtain ⟨v,c0,ct,b5,I⟩:=Dr b1 a1 h
  have hi:ops[i]? =some o.2:=a7 0 i o rfl rfl
  obtain ⟨M,G,ex,e1,b2,b3,b4⟩:=LR b1 a1 l J _ _ _ k r (by grind) (fun j b7 ch c3 c4=>a7 (j+1) b7 ch (by grind) (by grind)) b5
  refine ⟨M,G,ex ++ [ct],by grind,Nat.le_trans I.1 b2,fun bx m bD=>(b3 (Nat.le_trans bx I.1) m bD).trans (I.2.1 bx m bD),fun ro B0 w0 F Q b0 a6 a w aE ab=> ?_⟩
  rw [wpOpsIn_cons]
  exact NP hi I b0 a6 aE (fun O w' b6=>b4 ro B0 w0 F Q b0 (Nat.le_trans a6 I.1) O w' b6 ab)
structure iA (P:Program) (ops:Array Oper) (m:Nat) (Ts:Nat→List AV) (Hs:Nat→Hp) (tcs:Nat→Tch×Nat×Nat):Prop where
 step:∀ i,i < m→∃ o v,ops[i]? =some o∧Ts (i+1)=kD o.dst v (Ts i)∧∃ lo,One P ops true o (Ts i) (Hs i) lo v (Hs (i+1)) (tcs i)
theorem PI {x:Cx R} (U:fp x) (M:x.P=P) (u:List (Bool×Oper)):∀ (l:List (Bool×Oper)) (s:Nat) (T:List AV) (H:Hp) (G:Tl) (k:Lk R) (r:R),(∀ (j:Nat) (o:Bool×Oper),l[j]? =some o→ops[s+j]? =some o.2∧o.1=true)→lS x ops (l ++ u) T H G k=some r→
  ∃ (Ts:Nat→List AV) (Hs:Nat→Hp) (tcs:Nat→Tch×Nat×Nat),Ts s=T∧Hs s=H∧(∀ i,s≤i→i < s+l.length→∃ o v,ops[i]? =some o∧Ts (i+1)=kD o.dst v (Ts i)∧One P ops true o (Ts i) (Hs i) x.lo v (Hs (i+1)) (tcs i))∧
   lS x ops u (Ts (s+l.length)) (Hs (s+l.length)) (((List.range' s l.length).map tcs).reverse ++ G) k=some r
 | [],s,T,H,G,k,r,_,h=> ⟨fun _=>T,fun _=>H,fun _=>(.all,0,0),rfl,rfl,fun i J ab=>by grind,by simpa using h⟩
 | o :: l,s,T,H,G,k,r,O,h=>by
  rw [List.cons_append] at h
  unfold lS at h
  obtain ⟨hi,a1⟩:=O 0 o rfl
  rw [a1] at h
  obtain ⟨v,a7,I,J,ab⟩:=Dr U M h
  obtain ⟨Ts,Hs,tcs,e1,bx,bD,b0⟩:=PI U M u l (s+1) _ _ _ k r (fun j a6 b3=>by have:=O (j+1) a6 (by grind);grind) J
  refine ⟨fun i=>if i=s then T else Ts i,fun i=>if i=s then H else Hs i,fun i=>if i=s then I else tcs i,if_pos rfl,if_pos rfl,fun i b2 aE=> ?_, ?_⟩
  ·rw [List.length_cons] at aE
   grind
  ·have Z:s+(o :: l).length=s+1+l.length:=by grind
   rw [Z]
   simp only [show ¬ s+1+l.length=s by omega,if_false]
   have b1:((List.range' s (o :: l).length).map fun i=>if i=s then I else tcs i).reverse ++ G=((List.range' (s+1) l.length).map tcs).reverse ++ (I :: G):=by
    rw [List.length_cons,List.range'_succ,List.map_cons,List.reverse_cons,List.append_assoc]
    simp only [if_true,List.singleton_append]
    congr 2
    apply List.map_congr_left
    grind
   grind
variable {m : Nat} {Ts : Nat → List AV} {Hs : Nat → Hp} {tcs : Nat → Tch × Nat × Nat} {c : Nat → List Nat}
def iH (ops:Array Oper) (j:Nat):Option Tmp:=(ops[j]?).bind (·.dst)
theorem acF {G:Option Tmp} {v:AV} {T:List AV} {t:Nat} (h:G≠some t):(kD G v T)[t]? =T[t]? :=by
 rw [zK]
 grind
theorem acG (G:Option Tmp) (v:AV) (T:List AV):(kD G v T).length=T.length:=by
 rw [zK]
 grind
theorem iA.len (h:iA P ops m Ts Hs tcs):∀ i,i≤m→(Ts i).length=(Ts 0).length:=by
 intro i
 induction i with
 | zero=>intro _;rfl
 | succ i G=>
  intro hi
  obtain ⟨o,v,_,e,_⟩:=h.step i (by omega)
  rw [e,acG,G (by omega)]
theorem iA.zZ (h:iA P ops m Ts Hs tcs) {t i:Nat} :∀ G,i≤G→G≤m→(∀ j,i≤j→j < G→iH ops j≠some t)→(Ts G)[t]? =(Ts i)[t]? :=by
 intro G
 induction G with
 | zero=>grind
 | succ G ab=>
  intro U Z J
  by_cases hi:i=G+1
  ·rw [hi]
  ·obtain ⟨o,v,O,e,_⟩:=h.step G (by omega)
   have I:=J G (by omega) (by omega)
   unfold iH at I
   rw [O] at I
   have M:o.dst≠some t:=I
   rw [e,acF M]
   grind
theorem iA.mono (h:iA P ops m Ts Hs tcs) {i:Nat} :∀ G,i≤G→G≤m→(Hs i).length≤(Hs G).length:=by
 intro G
 induction G with
 | zero=>grind
 | succ G J=>
  intro M O
  by_cases hi:i=G+1
  ·grind
  ·obtain ⟨o,v,_,_,lo,I⟩:=h.step G (by omega)
   exact Nat.le_trans (J (by omega) (by omega)) I.1
def Wr (Hs:Nat→Hp) (tcs:Nat→Tch×Nat×Nat) (j n:Nat):Prop:=(n,true) ∈ (tcs j).1.ls∨((Hs j).length≤n∧n < (Hs (j+1)).length)
structure qT (m:Nat) (c:Nat→List Nat) (Hs:Nat→Hp) (tcs:Nat→Tch×Nat×Nat):Prop where
 some:∀ i,i < m→(tcs i).1.isSome=true
 ids:∀ i,i < m→(tcs i).2=((Hs i).length,(Hs (i+1)).length)
 OS:∀ i j,i < j→j < m→i ∉ c j→(tcs i).1.rd=true→(∀ n,(n,true) ∉ (tcs j).1.ls)∧(Hs (j+1)).length≤(Hs j).length
 rd2:∀ i j,i < j→j < m→i ∉ c j→(tcs j).1.rd=true→∀ n,(n,true) ∉ (tcs i).1.ls
 both:∀ i j,i < j→j < m→i ∉ c j→∀ n a b,(n,a) ∈ (tcs i).1.ls→(n,b) ∈ (tcs j).1.ls→a=false∧b=false
 low:∀ j,j < m→∀ n b,(n,b) ∈ (tcs j).1.ls→n < (Hs j).length
 new:∀ i j,i < j→j < m→i ∉ c j→∀ n b,(n,b) ∈ (tcs j).1.ls→¬ ((Hs i).length≤n∧n < (Hs (i+1)).length)
theorem Nv {l:List (Nat×Bool)} (h:Ef l=true) (n:Nat):(n,true) ∉ l:=by
 intro G
 have:=List.all_eq_true.1 h _ G
 simp at this
theorem S4 {aE:Tl} (J:∀ i,i < cD ops→aE.reverse[i]? =some (tcs i)) (bx:∀ i,i < cD ops→(tcs i).2=((Hs i).length,(Hs (i+1)).length)) (h:H5 ops aE=true):qT (cD ops) (fun d=>(mN ops.toList).getD d []) Hs tcs:=by
 unfold H5 at h
 rw [List.all_eq_true] at h
 have b3:∀ i j,i < j→j < cD ops→i ∉ (mN ops.toList).getD j []→Cw (tcs i) (tcs j)=true:=by
  intro i j O G U
  have I:=h j (List.mem_range.2 G)
  grind
 have some:∀ i,i < cD ops→(tcs i).1.isSome=true:=by
  grind
 have low:∀ j,j < cD ops→∀ n b,(n,b) ∈ (tcs j).1.ls→n < (Hs j).length:=by
  intro j G n b bD
  have I:=h j (List.mem_range.2 G)
  rw [Bool.and_eq_true,J j G,Bool.and_eq_true] at I
  grind
 have b6:∀ i j,i < j→j < cD ops→i ∉ (mN ops.toList).getD j []→apart (tcs i).1 (tcs j).1=true∧((tcs i).1.rd=false∨(tcs j).2.2≤(tcs j).2.1)∧∀ y ∈ (tcs j).1.ls,¬ ((tcs i).2.1≤y.1∧y.1 < (tcs i).2.2):=by
  intro i j O G U
  have:=b3 i j O G U
  unfold Cw at this
  simp only [Bool.and_eq_true,Bool.or_eq_true,Bool.not_eq_true',List.all_eq_true,decide_eq_true_eq] at this
  refine ⟨this.1.1,this.1.2,fun y ab a7=> ?_⟩
  grind
 have b4:∀ {x y:Tch},apart x y=true→x.isSome=true→y.isSome=true→(x.rd=true→∀ n,(n,true) ∉ y.ls)∧(y.rd=true→∀ n,(n,true) ∉ x.ls)∧∀ n a b,(n,a) ∈ x.ls→(n,b) ∈ y.ls→a=false∧b=false:=by
  intro x y Z b2 ab
  cases x with
  | all=>cases b2
  | some a l=>
   cases y with
   | all=>cases ab
   | some b m=>
    unfold apart at Z
    split at Z
    ·rename_i e
     cases e
     exact ⟨fun h=>(by cases h),fun _ n h=>(by simp [Tch.ls] at h),fun n a b h=>(by simp [Tch.ls] at h)⟩
    ·rename_i e _
     cases e
     exact ⟨fun _ n h=>(by simp [Tch.ls] at h),fun h=>(by cases h),fun n a b _ h=>(by simp [Tch.ls] at h)⟩
    ·rename_i e1 a1
     cases e1
     cases a1
     simp only [Bool.and_eq_true,Bool.or_eq_true,Bool.not_eq_true'] at Z
     obtain ⟨⟨I,M⟩,a6⟩:=Z
     refine ⟨fun J n=> ?_,fun J n=> ?_,fun n p q b0 b1=> ?_⟩
     ·rcases I with I | I
      ·rw [show a=true from J] at I;cases I
      ·exact Nv I n
     ·rcases M with M | M
      ·rw [show b=true from J] at M;cases M
      ·exact Nv M n
     ·have b5:=List.all_eq_true.1 (List.all_eq_true.1 a6 _ b0) _ b1
      grind
    ·cases Z
 refine ⟨some,bx,fun i j O G U J=> ?_,fun i j O G U J=> ?_,fun i j O G U=> ?_,low,fun i j O G U n b bD a7=> ?_⟩
 ·grind
 ·grind
 ·grind
 grind
end
end Go.V
namespace Go.V
open Go Go.RowKit
section
variable {R : Type} {P : Program} {B0 : Nat → Prop} {w0 : World} {F : Fr} {ro : Option Nat} {ops : Array Oper} {m : Nat} {c : Nat → List Nat} {Ts : Nat → List AV} {Hs : Nat → Hp} {tcs : Nat → Tch × Nat × Nat}
open Classical in
noncomputable def cV (Hs:Nat→Hp) (tcs:Nat→Tch×Nat×Nat) (b:Nat→Bool):Nat→Hf
 | 0=>fun n=>(Hs 0)[n]?
 | j+1=>fun n=>if b j=true∧Wr Hs tcs j n then (Hs (j+1))[n]? else cV Hs tcs b j n
theorem abO (h:iA P ops m Ts Hs tcs) (ha:qT m c Hs tcs) {j:Nat} (M:j < m) {n:Nat} (O:¬ Wr Hs tcs j n):(Hs (j+1))[n]? =(Hs j)[n]? :=by
 obtain ⟨o,v,_,_,lo,Z⟩:=h.step j M
 obtain ⟨a6,_,_,ab⟩:=Z
 by_cases aE:n < (Hs j).length
 ·rcases ab with ⟨_,_,_,I⟩ | ⟨_,_,I,_⟩
  ·have G:=I rfl (fun _=>False) default
   unfold mF at G
   obtain ⟨_,G⟩:=G
   have U:=ha.some j M
   cases J:(tcs j).1 with
   | all=>rw [J] at U;cases U
   | some rd l=>
    rw [J] at G
    exact G.1 n aE (fun a1=>O (.inl (by rw [J];exact a1)))
  ·rw [I]
 ·have:¬ n < (Hs (j+1)).length:=fun h=>O (.inr ⟨by omega,h⟩)
  grind
theorem yF (h:iA P ops m Ts Hs tcs) (ha:qT m c Hs tcs) {b:Nat→Bool} {n i:Nat} (hi:i≤m) (U:∀ j,j < i→Wr Hs tcs j n→b j=true) (Z:∀ j,i≤j→j < m→Wr Hs tcs j n→b j=false):cV Hs tcs b m n=(Hs i)[n]? :=by
 have e1:∀ G,G≤i→cV Hs tcs b G n=(Hs G)[n]? :=by
  intro G
  induction G with
  | zero=>intro _;rfl
  | succ G J=>
   intro a6
   unfold cV
   by_cases I:Wr Hs tcs G n
   ·grind
   ·rw [if_neg (fun M=>I M.2),J (by omega),abO h ha (by omega) I]
 have O:∀ G,i≤G→G≤m→cV Hs tcs b G n=(Hs i)[n]? :=by
  intro G
  induction G with
  | zero=>grind
  | succ G J=>
   intro ab aE
   by_cases a1:i=G+1
   ·grind
   ·unfold cV
    grind
 grind
theorem yG {b J:Nat→Bool} {i:Nat} (hb:∀ j,j≠i→J j=b j) {n:Nat} (G:¬ Wr Hs tcs i n):∀ j,cV Hs tcs J j n=cV Hs tcs b j n
 | 0=>rfl
 | j+1=>by
  unfold cV
  by_cases M:j=i
  ·subst M
   rw [if_neg (fun I=>G I.2),if_neg (fun I=>G I.2)]
   exact yG hb G j
  ·rw [hb j M,yG hb G j]
def pc (P:Program) (B0:Nat→Prop) (w0:World) (F:Fr) (ops:Array Oper) (m:Nat) (Ts:Nat→List AV) (Hs:Nat→Hp) (tcs:Nat→Tch×Nat×Nat) (b:Nat→Bool) (a:Act) (w:World):Prop:=
 Marks F.w.heap.size w a.defers∧∃ D α,Ok P B0 w0 D α (cV Hs tcs b m) w∧(∀ n,D n→n < (Hs 0).length∨∃ j,j < m∧b j=true∧(Hs j).length≤n∧n < (Hs (j+1)).length)∧a.tmps.size=(Ts 0).length∧
  (∀ t,t < (Ts 0).length→∃ x v,a.tmps[t]? =some x∧v.Rel P α (Own B0 D α (cV Hs tcs b m)) w D x∧((∃ j,j < m∧b j=true∧iH ops j=some t∧(Ts m)[t]? =some v)∨((∀ j,j < m→b j=true→iH ops j≠some t)∧(Ts 0)[t]? =some v)))∧
  bG F.D D F.α α F.C (aP D α (cV Hs tcs b m)) F.w w∧∀ i,D i→i < F.n→F.D i
theorem Mv {b:Nat→Bool} (hb:∀ j,b j=false):∀ j,cV Hs tcs b j=((Hs 0)[·]?)
 | 0=>rfl
 | j+1=>by
  funext n
  unfold cV
  rw [if_neg (fun G=>by grind),Mv hb j]
theorem abp {a:Act} {w:World} (Z:cJ P B0 w0 F (Ts 0) ((Hs 0)[·]?) a w) {b:Nat→Bool} (hb:∀ j,b j=false):pc P B0 w0 F ops m Ts Hs tcs b a w:=by
 obtain ⟨M,D,α,G,I,J,O⟩:=Z
 unfold pc
 rw [Mv hb m]
 refine ⟨M,D,α,G,fun n U=> .inl (by obtain ⟨k,a6⟩:=G.lt n U;grind), ?_,fun t ab=> ?_,J,O⟩
 ·have:=aj.len I
  grind
 ·obtain ⟨x,aE,a1⟩:=aj.get I (List.getElem?_eq_getElem ab)
  grind
theorem abo (G:Order ops m c) (Z:iA P ops m Ts Hs tcs) {D:Nat→Prop} {α:Nat→Nat×Nat} {B:Nat→Prop} {b:Nat→Bool} {a:Act} {w:World} (c7:a.tmps.size=(Ts 0).length)
  (bD:∀ t,t < (Ts 0).length→∃ x v,a.tmps[t]? =some x∧v.Rel P α B w D x∧((∃ j,j < m∧b j=true∧iH ops j=some t∧(Ts m)[t]? =some v)∨((∀ j,j < m→b j=true→iH ops j≠some t)∧(Ts 0)[t]? =some v)))
  {i:Nat} (hi:i < m) {o:Oper} (b6:ops[i]? =some o) (dx:∀ j ∈ c i,b j=true) (b2:∀ j,j < m→b j=true→i ∉ c j) (d:Nat) (b1:d ∈ o.looksAt ops):xi P α B w D (Ts i) a.tmps d:=by
 obtain ⟨ct,ab,b3⟩:=G.head i hi
 rw [b6] at ab
 cases ab
 have a6:∀ j,j < m→iH ops j=some d→j ∈ c i∨i ∈ c j:=by
  intro j I J
  obtain ⟨dy,c5,_,M⟩:=b3 j I
  refine M d ?_ b1
  unfold iH at J
  grind
 have b4:i < ops.size:=Nat.lt_of_lt_of_le hi G.le
 by_cases b7:d < (Ts 0).length
 ·obtain ⟨x,v,a7,M,bx⟩:=bD d b7
  right
  refine ⟨v,x, ?_,a7,M⟩
  rcases bx with ⟨j,I,b0,J,aE⟩ | ⟨c4,aE⟩
  ·have c3:=G.lt i b4 j ((a6 j I J).resolve_right (b2 j I b0))
   rw [← Z.zZ m (by omega) (Nat.le_refl _) (i:=i) (t:=d) ?_]
   ·exact aE
   ·intro ch c0 a1 O
    obtain ⟨ct,ab,b5⟩:=G.head j I
    obtain ⟨ea,c6,U,_⟩:=b5 ch a1
    unfold iH at O J
    grind
  ·rw [Z.zZ i (Nat.zero_le _) (by omega) (i:=0) (t:=d) ?_]
   ·exact aE
   ·intro j _ a1 O
    rcases a6 j (by omega) O with U | U
    ·grind
    ·have:=G.lt j (by omega) i U
     omega
 ·left
  exact ⟨List.getElem?_eq_none (by rw [Z.len i (by omega)];omega),Array.getElem?_eq_none (by omega)⟩
theorem abq (hG:w0.heap.size≤F.w.heap.size) (ht:F.n≤(Hs 0).length) (eo:Order ops m c) (J:iA P ops m Ts Hs tcs) (ha:qT m c Hs tcs) {b aE:Nat→Bool} {a:Act} {w:World} (fs:pc P B0 w0 F ops m Ts Hs tcs b a w) {i:Nat} (hi:i < m) (hf:∀ j ∈ c i,b j=true) (hr:b i=false) (ct:∀ j,j < m→b j=true→i ∉ c j)
  (hq:∀ j,aE j=if j=i then true else b j) {Q:Exit→Act→World→Prop} {K:Act→World→Prop} (eR:∀ a w,pc P B0 w0 F ops m Ts Hs tcs aE a w→K a w):wpOpIn (W ro) 0 P ops Q i K a w:=by
 obtain ⟨e2,D,α,dx,b6,ev,eh,eN,e3⟩:=fs
 obtain ⟨o,v,c4,e,lo,c5⟩:=J.step i hi
 obtain ⟨hy,hx,fa,c5⟩:=c5
 have ep:=fun d Z=>abo eo J ev eh hi c4 hf ct d Z
 have hd:∀ x ∈ o.op.operands,(aD (Ts i) x).Rel P α (Own B0 D α (cV Hs tcs b m)) w D (a.eval x):=by
  intro x hg
  refine ur x (fun d Z=>ep d ?_)
  subst Z
  unfold Oper.looksAt
  exact List.mem_append_left _ (List.mem_filterMap.2 ⟨.tmp d,Array.mem_toList_iff.2 hg,rfl⟩)
 have eL:Region.wanted o (yielded ops a.tmps)=Region.wanted o (iz (Ts i) ops):=by
  unfold Region.wanted
  cases bD:o.guard with
  | none=>rfl
  | some hh=>
   obtain ⟨j,hj⟩:=hh
   simp only
   rw [Ro (fun d Z=>ep d ?_) (fun d Z=>fa j hj bD d Z)]
   unfold Oper.looksAt
   grind
 have e6:iH ops i=o.dst:=by unfold iH;rw [c4];rfl
 have hc:∀ t,o.dst=some t→∀ j,j < m→j≠i→iH ops j≠some t:=by
  intro t eb j M b2 e7
  obtain ⟨hK,et,fv⟩:=eo.head i hi
  rw [c4] at et
  cases et
  obtain ⟨hL,hA,hn,_⟩:=fv j M
  unfold iH at e7
  grind
 have keep:∀ j,b j=true→aE j=true:=fun j h=>by grind
 have en:∀ j,j≠i→aE j=b j:=fun j M=>by grind
 have hl:∀ n j,Wr Hs tcs j n→((∃ a,(n,a) ∈ (tcs i).1.ls)∧n < (Hs i).length∨Wr Hs tcs i n)→j < m→j≠i→(j < i→b j=true)∧(i < j→b j=false):=by
  intro n j G ez M b2
  constructor
  ·intro U
   cases a7:b j with
   | true=>rfl
   | false=>
    have a1:j ∉ c i:=fun e5=>by grind
    exfalso
    rcases ez with ⟨⟨a,c3⟩,gf⟩ | O
    ·rcases G with G | G
     ·have:=ha.both j i U hi a1 n true a G c3;cases this.1
     ·exact ha.new j i U hi a1 n a c3 G
    ·rcases O with O | O
     ·rcases G with G | G
      ·have:=ha.both j i U hi a1 n true true G O;cases this.1
      ·exact ha.new j i U hi a1 n true O G
     ·rcases G with G | G
      ·-- j touches a block that i makes:j's touches lie below
       have I:=J.mono i (show j+1≤i by omega) (by omega)
       have b1:=J.mono (j+1) (show j≤j+1 by omega) (by omega)
       obtain ⟨hM,hN,hB,_,hI,hD⟩:=J.step j M
       exact absurd (ha.low j M n true G) (by omega)
      ·have I:=J.mono i (show j+1≤i by omega) (by omega)
       omega
  ·intro U
   cases a7:b j with
   | false=>rfl
   | true=>
    have a1:=ct j M a7
    exfalso
    rcases ez with ⟨⟨a,c3⟩,gf⟩ | O
    ·rcases G with G | G
     ·have:=ha.both i j U M a1 n a true c3 G;cases this.2
     ·have I:=J.mono j (show i≤j by omega) (by omega);omega
    ·rcases O with O | O
     ·rcases G with G | G
      ·have:=ha.both i j U M a1 n true true O G;cases this.1
      ·have I:=J.mono j (show i≤j by omega) (by omega)
       have:=ha.low i hi n true O
       omega
     ·rcases G with G | G
      ·exact ha.new i j U M a1 n true G O
      ·have I:=J.mono j (show i+1≤j by omega) (by omega);omega
 have e4:aE i=true:=by grind
 have hJ:∀ n,D n→(Hs i).length≤n→n < (Hs (i+1)).length→False:=by
  intro n ab I b1
  rcases b6 n ab with bx | ⟨j,M,a7,bx,b5⟩
  ·have:=J.mono i (Nat.zero_le i) (by omega);omega
  ·have b2:j≠i:=fun h=>by grind
   rcases Nat.lt_or_gt_of_ne b2 with a6 | a6
   ·have:=J.mono i (show j+1≤i by omega) (by omega);omega
   ·have:=J.mono j (show i+1≤j by omega) (by omega);omega
 have eg:∀ (D':Nat→Prop) (α':Nat→Nat×Nat) (w':World) (x:Value),Ok P B0 w0 D' α' (cV Hs tcs aE m) w'→(∀ n,D' n→D n∨((Hs i).length≤n∧n < (Hs (i+1)).length))→bG D D' α α' (aP D α (cV Hs tcs b m)) (aP D' α' (cV Hs tcs aE m)) w w'→v.Rel P α' (Own B0 D' α' (cV Hs tcs aE m)) w' D' x→
   K (a.put o.dst x) w':=by
  intro D' α' w' x ch b7 bD ec
  have Z:(a.put o.dst x).defers=a.defers:=by cases o.dst <;> rfl
  have hz:=J.mono i (Nat.zero_le i) (by omega)
  refine eR _ _ ⟨by rw [Z];exact e2.mono dx ch bD,D',α',ch, ?_, ?_, ?_,eN.trans bD,fun n ab U=>(b7 n ab).elim (fun h=>e3 n h U) (fun h=>by omega)⟩
  ·intro n ab
   rcases b7 n ab with I | I
   ·rcases b6 n I with b1 | ⟨j,b1,bx,b5⟩
    ·exact .inl b1
    grind
   grind
  ·cases Z:o.dst with
   | none=>exact ev
   | some d=>show (a.tmps.setIfInBounds d x).size=_;grind
  ·intro t eb
   by_cases b4:o.dst=some t
   ·refine ⟨x,v, ?_,ec, .inl ⟨i,hi,e4,e6.trans b4, ?_⟩⟩
    ·rw [b4]
     show (a.tmps.setIfInBounds t x)[t]? =some x
     grind
    ·rw [J.zZ m (by omega) (Nat.le_refl _) (i:=i+1) (t:=t) (fun j b5 a6=>hc t b4 j a6 (by omega)),e,zK,b4]
     exact List.getElem?_set_self (by rw [J.len i (by omega)];exact eb)
   ·obtain ⟨y,u,I,b1,bx⟩:=eh t eb
    refine ⟨y,u, ?_,AV.Rel.mono _ _ (bD.keeps B0) b1, ?_⟩
    ·cases Z:o.dst with
     | none=>exact I
     | some d=>
      show (a.tmps.setIfInBounds d x)[t]? =some y
      rw [Array.getElem?_setIfInBounds_ne (fun h=>b4 (by rw [Z,h]))]
      exact I
    grind
 refine Rg c4 (fun ed=> ?_) (fun ed=> ?_)
 ·rw [eL] at ed
  rcases c5 with ⟨_,b0,_,I⟩ | ⟨I,_⟩
  ·have I:=I rfl B0 w0
   have eu:=ha.some i hi
   cases b0:(tcs i).1 with
   | all=>rw [b0] at eu;cases eu
   | some rd l=>
    have dy:(tcs i).1.ls=l:=by rw [b0];rfl
    have hF:(tcs i).1.rd=rd:=by rw [b0];rfl
    rw [b0] at I
    obtain ⟨_,_,I⟩:=I
    have b3:cB (cV Hs tcs b m) (Hs i) (Hs (i+1)) l=cV Hs tcs aE m:=by
     funext n
     unfold cB
     by_cases O:Wr Hs tcs i n
     ·rw [if_pos (by rw [← dy];exact O)]
      refine (yF J ha (show i+1≤m by omega) (fun j M G=> ?_) (fun j M c0 G=> ?_)).symm
      ·grind
      grind
     ·rw [if_neg (by rw [← dy];exact O)]
      exact (yG en O m).symm
    refine I (cV Hs tcs b m) (fun n ab U=> ?_) ro D α a w _ _ dx ⟨fun n ab ea c7=> ?_,fun hE n c7=> ?_⟩ hd (fun D' α' w' x ch b7 bD ec=>eg D' α' w' x (b3 ▸ ch) b7 (b3 ▸ bD) (b3 ▸ ec))
    ·rw [← dy] at ab
     refine yF J ha (Nat.le_of_lt hi) (fun j M G=>(hl n j G (.inl ⟨ab,U⟩) (by omega) (by omega)).1 M) (fun j M c0 G=> ?_)
     grind
    ·rcases ea with ea | ea
     ·grind
     ·rcases b6 n c7 with bx | ⟨j,M,a7,bx,b5⟩
      ·have:=J.mono i (Nat.zero_le i) (by omega);omega
      ·have b2:j≠i:=fun h=>by grind
       rcases Nat.lt_or_gt_of_ne b2 with a6 | a6
       ·have:=J.mono i (show j+1≤i by omega) (by omega);omega
       ·have:=(ha.OS i j a6 M (ct j M a7) (by grind)).2;omega
    ·refine yF J ha (Nat.le_of_lt hi) (fun j M G=> ?_) (fun j M c0 G=> ?_)
     ·cases a7:b j with
      | true=>rfl
      | false=>
       have a1:j ∉ c i:=fun e5=>by grind
       exfalso
       rcases G with G | G
       ·exact ha.rd2 j i M hi a1 (by grind) n G
       ·rcases b6 n c7 with bx | ⟨c6,hv,hs,bx,b5⟩
        ·have:=J.mono j (Nat.zero_le j) (by omega);omega
        ·have fc:c6≠j:=fun h=>by grind
         rcases Nat.lt_or_gt_of_ne fc with a6 | a6
         ·have:=J.mono j (show c6+1≤j by omega) (by omega);omega
         ·have:=J.mono c6 (show j+1≤c6 by omega) (by omega);omega
     ·cases a7:b j with
      | false=>rfl
      | true=>
       exfalso
       have b2:j≠i:=fun h=>by grind
       have a6:=ha.OS i j (by omega) c0 (ct j c0 a7) (by grind)
       rcases G with G | G
       ·grind
       ·omega
  grind
 ·rw [eL] at ed
  rcases c5 with ⟨I,_⟩ | ⟨_,rfl,ho,b0⟩
  ·grind
  ·have gn:∀ n,¬ Wr Hs tcs i n:=by
    rintro n (I | I)
    ·rw [b0] at I;simp [Tch.ls] at I
    grind
   have b3:cV Hs tcs b m=cV Hs tcs aE m:=by funext n;exact (yG en (gn n) m).symm
   refine eg D α w undef (b3 ▸ dx) (fun n ab=> .inl ab) (b3 ▸ bG.refl _ _ _ _) rfl
theorem abn {b:Nat→Bool} {a:Act} {w:World} (G:iA P ops m Ts Hs tcs) (ha:qT m c Hs tcs) (bD:pc P B0 w0 F ops m Ts Hs tcs b a w) (hb:∀ j,j < m→b j=true):cJ P B0 w0 F (Ts m) ((Hs m)[·]?) a w:=by
 obtain ⟨a7,D,α,O,b3,b0,U,M,bx⟩:=bD
 have a6:cV Hs tcs b m=((Hs m)[·]?):=by
  funext n
  exact yF G ha (Nat.le_refl m) (fun j I _=>hb j I) (fun j Z ab=>by omega)
 rw [a6] at O U M
 refine ⟨a7,D,α,O, ?_,M,bx⟩
 refine aj.oC (by rw [Array.length_toList,b0,G.len m (Nat.le_refl _)]) (fun t v b2=> ?_)
 have b1:t < (Ts 0).length:=by rw [← G.len m (Nat.le_refl _)];grind
 obtain ⟨x,u,Z,ab,aE⟩:=U t b1
 rw [Array.getElem?_toList]
 rcases aE with ⟨j,_,_,_,J⟩ | ⟨J,a1⟩
 ·grind
 ·rw [← G.zZ m (Nat.zero_le _) (Nat.le_refl _) (i:=0) (fun j _ I=>J j I (hb j I)),b2] at a1
  grind
end
end Go.V
namespace Go.V
open Go Go.RowKit
section
variable {R : Type} {P : Program} {ro : Option Nat} {ops : Array Oper} {m : Nat} {c : Nat → List Nat}
theorem NZ {x:Cx R} (c4:fp x) (b4:x.P=P) (M:Order ops m c):∀ (l:List (Bool×Oper)) (d:Nat) (T:List AV) (H:Hp) (a1:Tl) (k:Lk R) (r:R),d+l.length=ops.size→m≤d→(∀ (j:Nat) (o:Bool×Oper),l[j]? =some o→ops[d+j]? =some o.2)→lS x ops l T H a1 k=some r→
  ∃ O G ex,k O G (ex ++ a1)=some r∧H.length≤G.length∧(x.lo≤H.length→∀ q,q < x.lo→G[q]? =H[q]?)∧∀ (ro:Option Nat) (B0:Nat→Prop) (w0:World) (F:Fr) (Q:Exit→Act→World→Prop),w0.heap.size≤F.w.heap.size→F.n≤H.length→(∀ U w',cJ P B0 w0 F O (G[·]?) U w'→Q .normal U w')→
   ∀ (listed:Array Bool) a w,listed.size=ops.size→(∀ j,j < ops.size→lb listed j=decide (j < d))→cJ P B0 w0 F T (H[·]?) a w→wpAnyIn (W ro) 0 P .any ops Q l.length listed a w
 | [],d,T,H,a1,k,r,b5,ec,a7,h=> ⟨T,H, [],h,Nat.le_refl _,fun _ _ _=>rfl,fun ro B0 w0 F Q _ _ a6 listed a w aE Z b0=>by
   refine ⟨?_,a6 a w b0⟩
   cases c0:Region.ready .any ops listed with
   | nil=>rfl
   | cons i l=>
    obtain ⟨o,ab,I,_⟩:=(wg aE i).1 (by grind)
    grind⟩
 | o :: l,d,T,H,a1,k,r,b5,ec,a7,h=>by
  unfold lS at h
  obtain ⟨v,eu,et,I,J⟩:=Dr c4 b4 h
  have eg:ops[d]? =some o.2:=a7 0 o rfl
  rw [List.length_cons] at b5
  obtain ⟨O,G,ex,e1,c5,c6,c7⟩:=NZ c4 b4 M l (d+1) _ _ _ k r (by omega) (by omega) (fun j b1 b3=>by have:=a7 (j+1) b1 (by grind);grind) I
  refine ⟨O,G,ex ++ [et],by grind,Nat.le_trans J.1 c5,fun ch q ct=>(c6 (Nat.le_trans ch J.1) q ct).trans (J.2.1 ch q ct),fun ro B0 w0 F Q c3 b7 a6 listed a w aE Z b0=> ?_⟩
  have dy:d < ops.size:=by omega
  obtain ⟨ep,eh,ea,_⟩:=M.um d dy
  have dx:tj ops (lb listed):=by
   intro j o ab hb e b6
   have bD:=(Array.getElem?_eq_some_iff.1 ab).1
   obtain ⟨b1,ed,I,_⟩:=M.um j bD
   grind
  have en:d ∈ Region.ready .any ops listed:=(wg aE d).2 ⟨ep,eh,by grind,fun e b6=>(Z e (by grind)).trans (decide_eq_true (ea e b6))⟩
  refine ⟨fun c0=>absurd (c0 ▸ en) List.not_mem_nil,fun i hi=> ?_⟩
  obtain ⟨eL,ab,I,ev⟩:=(wg aE i).1 hi
  have bx:=(Array.getElem?_eq_some_iff.1 ab).1
  have eb:i=d:=by
   rw [Z i bx,decide_eq_false_iff_not] at I
   rcases Nat.lt_or_ge d i with b2 | b2
   ·have b3:=M.tail i bx (by omega) d b2
    have ez:=M.up dx i bx (fun b1 ed=>by grind) d b3
    grind
   ·omega
  subst eb
  refine NP eg J c3 b7 b0 (fun U w' eo=>c7 ro B0 w0 F Q c3 (Nat.le_trans b7 J.1) a6 _ U w' (by grind) (fun j bD=> ?_) eo)
  rw [DS (by omega),Z j bD]
  grind
theorem ZS {n:Nat} {b:Nat→Bool} {k:Nat} (h:left n b=k+1):∃ i,i < n∧b i=false∧∀ j,j < i→b j=true:=by
 have J:∃ i,i < n∧b i=false:=by
  unfold left at h
  cases O:(List.range n).filter (fun j=> !b j) with
  | nil=>grind
  | cons x r=>
   have Z:x ∈ (List.range n).filter fun j=> !b j:=by grind
   grind
 have M:∀ k,(∃ i,i≤k∧i < n∧b i=false)→∃ i,i < n∧b i=false∧∀ j,j < i→b j=true:=by
  intro k
  induction k with
  | zero=>
   grind
  | succ k ab=>
   rintro ⟨i,hi,G,I⟩
   by_cases U:∃ j,j≤k∧j < n∧b j=false
   ·grind
   grind
 obtain ⟨i,G,I⟩:=J
 exact M i ⟨i,Nat.le_refl _,G,I⟩
theorem ZU {n:Nat} {b:Nat→Bool} (h:left n b=0):∀ j,j < n→b j=true:=by
 intro j G
 cases hb:b j with
 | true=>rfl
 | false=>
  have:j ∈ (List.range n).filter fun j=> !b j:=List.mem_filter.2 ⟨List.mem_range.2 G,by simp [hb]⟩
  unfold left at h
  grind
variable {B0 : Nat → Prop} {w0 : World} {F : Fr} {Ts : Nat → List AV} {Hs : Nat → Hp} {tcs : Nat → Tch × Nat × Nat}
theorem acj (I:Order ops m c) (dx:w0.heap.size≤F.w.heap.size) (ct:F.n≤(Hs 0).length) {Q:Exit→Act→World→Prop} (a6:iA P ops m Ts Hs tcs) (ha:qT m c Hs tcs)
  (c7:∀ (listed:Array Bool) a w,listed.size=ops.size→(∀ j,j < ops.size→lb listed j=decide (j < m))→cJ P B0 w0 F (Ts m) ((Hs m)[·]?) a w→wpAnyIn (W ro) 0 P .any ops Q (ops.size - m) listed a w):
  ∀ (G:Nat) (listed:Array Bool) (a:Act) (w:World),left m (lb listed)=G→listed.size=ops.size→tj ops (lb listed)→(∀ d,m≤d→lb listed d=false)→pc P B0 w0 F ops m Ts Hs tcs (lb listed) a w→wpAnyIn (W ro) 0 P .any ops Q (G+(ops.size - m)) listed a w:=by
 intro G
 have ed:=I.le
 induction G with
 | zero=>
  intro listed a w Z M J c6 aE
  have b5:=ZU Z
  rw [Nat.zero_add]
  refine c7 listed a w M (fun j c0=> ?_) (abn a6 ha aE b5)
  grind
 | succ G dy=>
  intro listed a w Z M J c6 aE
  obtain ⟨O,ec,b6,c3⟩:=ZS Z
  rw [show G+1+(ops.size - m)=(G+(ops.size - m))+1 by omega]
  refine ⟨fun eg=> ?_,fun i hi=> ?_⟩
  ·exfalso
   obtain ⟨o,U,ab,_⟩:=I.um O (by omega)
   have:O ∈ Region.ready .any ops listed:=(wg M O).2 ⟨o,U,b6,fun e h=>c3 e (ab e h)⟩
   grind
  ·obtain ⟨o,U,a1,b4⟩:=(wg M i).1 hi
   have bx:=(Array.getElem?_eq_some_iff.1 U).1
   have b1:=I.up J i bx (fun b2 bD=>by grind)
   have a7:i < m:=by
    rcases Nat.lt_or_ge i m with h | h
    ·exact h
    ·have ea:=b1 O (I.tail i bx h O (by omega))
     grind
   have b0:=DS (listed:=listed) (i:=i) (by omega)
   have ch:∀ j,j < m→lb listed j=true→i ∉ c j:=by
    intro j c0 b7 c4
    have:=I.up J j (by omega) (fun b2 bD e ab=>J j b2 bD b7 e ab) i c4
    grind
   refine abq dx ct I a6 ha aE a7 b1 a1 ch b0 (fun b3 w' c5=> ?_)
   refine dy _ b3 w' ?_ (by grind) (UR M J U b4) (fun d eb=> ?_) c5
   ·have:=ZT a7 a1 b0
    omega
   grind
theorem aeF {T:List AV} {h:Hf} {a:Act} {w:World} (ab:cJ P B0 w0 F T h a w):cJ P B0 w0 F T h a w.drew:=by
 obtain ⟨O,D,α,I,Z,M,U⟩:=ab
 have hb:bw w.heap.size w w.drew:=bw.drew (bw.refl _ _)
 obtain ⟨J,G⟩:=oF I hb
 exact ⟨O.mono I J G,D,α,J,aj.mono _ _ (G.keeps B0) Z,M.trans G,U⟩
theorem YG {x:Cx R} (b3:fp x) (a7:x.P=P) (eb:P.follows .mixedOrders=true) {Z:Bool} {T:List AV} {H:Hp} {k:Cn R} {r:R} (h:Fh x ops Z T H k=some r):
  ∃ I G,k .normal I G=some r∧H.length≤G.length∧(x.lo≤H.length→∀ q,q < x.lo→G[q]? =H[q]?)∧∀ (ro:Option Nat) (B0:Nat→Prop) (w0:World) (F:Fr) (Q:Exit→Act→World→Prop) (id:Nat),w0.heap.size≤F.w.heap.size→F.n≤H.length→(∀ b4 w',cJ P B0 w0 F I (G[·]?) b4 w'→Q .normal b4 w')→
   ∀ a w,cJ P B0 w0 F T (H[·]?) a w→(Code.region id ops Z).wpIn (W ro) 0 P Q a w:=by
 unfold Fh at h
 cases Z with
 | false=>
  simp only [cond] at h
  obtain ⟨I,G,ex,aE,a1,a6,c3⟩:=LR b3 a7 (ops.toList.map fun o=>(false,o)) (List.range ops.size) T H [] _ r (by simp) (fun j i o et J=>by
   grind) h
  exact ⟨I,G,aE,a1,a6,fun ro B0 w0 F Q id U b0 bx a w b2=>wpIn_region (c3 ro B0 w0 F Q U b0 a w b2 bx)⟩
 | true=>
  simp only [Bool.cond_eq_ite,if_true] at h
  split at h
  ·rename_i c4
   have bD:=aca c4
   have eu:=bD.le
   have c5:jL ops=(jL ops).take (cD ops) ++ (jL ops).drop (cD ops):=(List.take_append_drop _ _).symm
   have dy:(jL ops).length=ops.size:=by unfold jL;rw [List.length_map,List.length_zipIdx,Array.length_toList]
   have ep:∀ (j:Nat) (o:Bool×Oper),(jL ops)[j]? =some o→ops[j]? =some o.2∧o.1=decide (j < cD ops):=by
    intro j o J
    unfold jL at J
    rw [List.getElem?_map,Option.map_eq_some_iff] at J
    obtain ⟨p,ec,rfl⟩:=J
    rw [List.getElem?_zipIdx,Option.map_eq_some_iff] at ec
    grind
   rw [c5] at h
   obtain ⟨Ts,Hs,tcs,e1,b5,ab,b6⟩:=PI b3 a7 ((jL ops).drop (cD ops)) ((jL ops).take (cD ops)) 0 T H [] _ r (fun j o J=>by
    grind) h
   have ch:((jL ops).take (cD ops)).length=cD ops:=by grind
   rw [ch,Nat.zero_add] at b6
   simp only [ch,Nat.zero_add] at ab
   have b7:iA P ops (cD ops) Ts Hs tcs:= ⟨fun i hi=>by
    grind⟩
   obtain ⟨I,G,ex,k1,eh,en,eo⟩:=NZ b3 a7 bD ((jL ops).drop (cD ops)) (cD ops) _ _ _ _ r (by grind) (Nat.le_refl _) (fun j o J=>by
    grind) b6
   split at k1
   ·rename_i ed
    have c6:∀ i,i < cD ops→(tcs i).2=((Hs i).length,(Hs (i+1)).length):=by
     intro i hi
     obtain ⟨o,v,_,_,_,_,_,k⟩:=ab i (Nat.zero_le _) hi
     grind
    have ha:=S4 (Hs:=Hs) (tcs:=tcs) (fun i hi=>by
     rw [List.append_nil,List.reverse_append,List.reverse_reverse,List.getElem?_append_left (by grind),List.getElem?_map,List.getElem?_range' hi]
     simp) c6 ed
    have O:=b7.mono (i:=0) (cD ops) (Nat.zero_le _) (Nat.le_refl _)
    have c7:x.lo≤H.length→∀ i,i≤cD ops→∀ q,q < x.lo→(Hs i)[q]? =H[q]? :=by
     intro b1 i
     induction i with
     | zero=>grind
     | succ i eg=>
      intro hi q M
      obtain ⟨o,v,_,_,_,k,_⟩:=ab i (Nat.zero_le _) (by omega)
      refine (k ?_ q M).trans (eg (by omega) q M)
      grind
    rw [b5] at O
    refine ⟨I,G,k1,Nat.le_trans O eh,fun b1 q M=>(en (Nat.le_trans b1 O) q M).trans (c7 b1 _ (Nat.le_refl _) q M),fun ro B0 w0 F Q id U b0 bx a w b2=> ?_⟩
    have ct:∀ j,lb (Array.replicate ops.size false) j=false:=by
     intro j
     unfold lb
     rw [Array.getD_eq_getD_getElem?,Array.getElem?_replicate]
     split <;> rfl
    have c0:=aeF b2
    rw [← e1,← b5] at c0
    have ea:pc P B0 w0 F ops (cD ops) Ts Hs tcs (lb (Array.replicate ops.size false)) a w.drew:=abp c0 ct
    refine wpIn_region_any eb ?_
    have dx:left (cD ops) (lb (Array.replicate ops.size false))=cD ops:=by
     unfold left
     rw [List.filter_eq_self.2 (fun x _=>by grind),List.length_range]
    have:=acj bD U (by grind) b7 ha (fun listed a w aE a1 a6=>by
     have:=eo ro B0 w0 F Q U (Nat.le_trans b0 O) bx listed a w aE a1 a6
     rwa [List.length_drop,dy] at this) (cD ops) (Array.replicate ops.size false) a w.drew dx (by simp) (fun d o _ hb=>by grind) (fun d _=>ct d) ea
    rwa [show cD ops+(ops.size - cD ops)=ops.size by omega] at this
   ·cases k1
  ·cases h
end
end Go.V
namespace Go.V
open Go Go.RowKit
section
variable {P : Program} {D D1 : Nat → Prop} {α α1 : Nat → Nat × Nat} {B B1 : Nat → Prop} {w : World} {ρ : Nat → Nat} {r : List Nat}
theorem OT (ρ:Nat→Nat):∀ l:List AV,(fj ρ l).length=l.length
 | []=>rfl
 | v :: l=>by simp [fj,OT ρ l]
theorem DI:∀ {r:List Nat} {i:Nat},i ∈ r→r[idx r i]? =some i
 | [],i,h=>by simp at h
 | j :: l,i,h=>by
  unfold idx
  cases G:(j==i) with
  | true=>grind
  | false=>
   have:j≠i:=by grind
   simp only [cond]
   rw [List.getElem?_cons_succ]
   exact DI ((List.mem_cons.1 h).resolve_left (fun e=>this e.symm))
theorem Nw:∀ {r:List Nat},yZ r=true→∀ {i j k:Nat},r[i]? =some k→r[j]? =some k→i=j
 | [],_,i,j,k,h,_=>by simp at h
 | a :: l,G,i,j,k,hi,I=>by
  unfold yZ at G
  rw [Bool.and_eq_true,Bool.not_eq_true',← Bool.not_eq_true,List.contains_iff_mem] at G
  cases i with
  | zero=>
   grind
  | succ i=>
   cases j with
   | zero=>
    grind
   | succ j=>
    rw [List.getElem?_cons_succ] at hi I
    rw [Nw G.2 hi I]
theorem Fk (ρ:Nat→Nat) (b:bQ):(zQ ρ b).isLive=b.isLive∧(zQ ρ b).jc=b.jc:=by
 cases b with
 | row c ty st=>cases st <;> exact ⟨rfl,rfl⟩
 | loop r=>exact ⟨rfl,rfl⟩
theorem yj (ρ:Nat→Nat) (c:ao):(c.Fj ρ).len=c.len:=by
 cases c with
 | cells l=>exact OT ρ l
 | _=>rfl
theorem Lf (ab:∀ i ∈ r,D i→D1 (ρ i)∧α1 (ρ i)=α i) (Z:∀ b,B1 b→B b) (c:ao) (G:List Value) (hi:∀ i ∈ c.ids,i ∈ r) (h:aj P α B w c.a8 D G):aj P α1 B1 w (c.Fj ρ).a8 D1 G:=by
 have M:∀ (l:List AV),(∀ v ∈ l,∃ y,v= .val y)→∀ G,aj P α B w l D G→aj P α1 B1 w l D1 G:=by
  intro l
  induction l with
  | nil=>intro _ G h;exact h
  | cons v l aE=>
   intro J G h
   obtain ⟨y,zs,rfl,O,U⟩:=h
   obtain ⟨u,rfl⟩:=J v List.mem_cons_self
   exact ⟨y,zs,rfl,O,aE (fun v I=>J v (List.mem_cons_of_mem _ I)) zs U⟩
 cases c with
 | cells l=>exact nC ab Z l G hi h
 | ints k zs=>exact M _ (fun v I=>by obtain ⟨z,_,rfl⟩:=List.mem_map.1 I;grind) G h
 | vals vs=>exact M _ (fun v I=>by obtain ⟨z,_,rfl⟩:=List.mem_map.1 I;grind) G h
variable {B0 : Nat → Prop} {w0 : World} {F : Fr}
theorem rQ {keep:List Nat} {T:List AV} {I:List Value} (h:aj P α B w T D I):aj P α B w (ll keep T) D I:=by
 unfold ll
 refine aj.oC (by rw [aj.len h,List.length_mapIdx]) (fun i v G=> ?_)
 rw [List.getElem?_mapIdx,Option.map_eq_some_iff] at G
 obtain ⟨u,O,rfl⟩:=G
 obtain ⟨y,J,M⟩:=aj.get h O
 refine ⟨y,J, ?_⟩
 cases keep.contains i with
 | true=>exact M
 | false=>trivial
theorem PO {T:List AV} {H:Hp} (b4:rI r T H=true) (b7:∀ i,F.D i→r[i]? =some i) (eo:∀ i,i < F.n→r[i]? =some i) {a:Act} (h:Marks F.w.heap.size w a.defers∧∃ D α,Ok P B0 w0 D α (H[·]?) w∧aj P α (Own B0 D α (H[·]?)) w T D a.tmps.toList∧bG F.D D F.α α F.C (aP D α (H[·]?)) F.w w∧∀ i,D i→i < F.n→F.D i):cJ P B0 w0 F (fj (idx r) T) ((gY r H)[·]?) a w:=by
 obtain ⟨c5,D,α,a1,c6,b0,eh⟩:=h
 unfold rI at b4
 simp only [Bool.and_eq_true,List.all_eq_true,List.contains_iff_mem] at b4
 obtain ⟨⟨dy,c7⟩,eg⟩:=b4
 have dx:∀ i ∈ r,∃ b,H[i]? =some b∧∀ j ∈ b.ids,j ∈ r:=by
  grind
 let D1:Nat→Prop:=fun j=>∃ i,r[j]? =some i∧D i
 let α1:Nat→Nat×Nat:=fun j=>α ((r[j]?).getD 0)
 have ab:∀ {j i:Nat},r[j]? =some i→α1 j=α i:=by
  grind
 have a7:∀ {j i:Nat},r[j]? =some i→∃ b,H[i]? =some b∧(∀ j ∈ b.ids,j ∈ r)∧(gY r H)[j]? =some (zQ (idx r) b):=by
  intro j i h
  obtain ⟨b,hb,G⟩:=dx i (List.mem_of_getElem? h)
  refine ⟨b,hb,G, ?_⟩
  unfold gY
  grind
 have b2:∀ i ∈ r,D i→D1 (idx r i)∧α1 (idx r i)=α i:=fun i hi O=> ⟨⟨i,DI hi,O⟩,ab (DI hi)⟩
 have b5:∀ b,aP D1 α1 ((gY r H)[·]?) b→aP D α (H[·]?) b:=by
  rintro b ⟨j,k, ⟨i,hi,O⟩,I,G,M⟩
  obtain ⟨ec,e1,_,aE⟩:=a7 hi
  have J:(gY r H)[j]? =some k:=I
  rw [aE] at J
  cases J
  rw [(Fk _ _).1] at G
  rw [ab hi] at M
  exact ⟨i,ec,O,e1,G,M⟩
 have bD:∀ b,Own B0 D1 α1 ((gY r H)[·]?) b→Own B0 D α (H[·]?) b:=fun b h=>h.elim .inl (fun h=> .inr (b5 b h))
 refine ⟨c5,D1,α1, ⟨?_,a1.below,a1.cO,fun b hb b1=>a1.sep b hb (b5 b b1), ?_, ?_, ?_, ?_⟩,nC b2 bD T _ (fun i hi=>c7 i hi) c6, ⟨fun i hi=> ⟨i,b7 i hi,b0.le i hi⟩,fun i hi=>(ab (b7 i hi)).trans (b0.same i hi),fun b o I G=> ⟨fun h=>(b0.block b o I G).1 (b5 b h),(b0.block b o I G).2⟩⟩,fun i en hi=>by
  grind⟩
 ·rintro j ⟨i,hi,O⟩
  obtain ⟨b,_,_,e⟩:=a7 hi
  grind
 ·rintro j ⟨i,hi,O⟩
  rw [ab hi]
  exact a1.fresh i O
 ·rintro i j k l ⟨ea,hi,c3⟩ ⟨eb,b3,c4⟩ I G M U Z
  obtain ⟨a6,e1,_,aE⟩:=a7 hi
  obtain ⟨ch,bx,_,ct⟩:=a7 b3
  have J:(gY r H)[i]? =some k:=I
  have b6:(gY r H)[j]? =some l:=G
  rw [aE] at J
  rw [ct] at b6
  cases J
  cases b6
  rw [(Fk _ _).1] at M U
  rw [ab hi,ab b3] at Z
  have:=a1.inj ea eb a6 ch c3 c4 e1 bx M U Z
  subst this
  exact Nw dy hi b3
 ·rintro j k ⟨i,hi,O⟩ I G b1
  obtain ⟨a6,e1,_,aE⟩:=a7 hi
  have J:(gY r H)[j]? =some k:=I
  rw [aE] at J
  cases J
  rw [(Fk _ _).2] at G
  rw [ab hi] at b1
  exact a1.dc i a6 O e1 G (bD _ b1)
 ·rintro j k ⟨i,hi,O⟩ I
  obtain ⟨a6,e1,bx,aE⟩:=a7 hi
  have J:(gY r H)[j]? =some k:=I
  rw [aE] at J
  cases J
  rw [ab hi]
  have hb:=a1.cM i a6 O e1
  cases a6 with
  | row c ty st=>
   cases st with
   | dead=>exact .inl rfl
   | live=>
    rcases hb with hb | ⟨cs,fr,I,G,M,U,Z⟩
    ·cases hb
    ·exact .inr ⟨cs,fr,I,G,M,by rw [yj];exact U,by rw [yj];exact Lf b2 bD c _ (fun i hi=>bx i hi) Z⟩
   | froz=>
    rcases hb with hb | ⟨cs,fr,I,G,M,U,Z⟩
    ·cases hb
    ·exact .inr ⟨cs,fr,I,G,M,by rw [yj];exact U,by rw [yj];exact Lf b2 bD c _ (fun i hi=>bx i hi) Z⟩
  | loop ed=>
   obtain ⟨L,I,G,M,U,Z,c0⟩:=hb
   exact ⟨L,I,G,M,U,Z,nC b2 bD ed.T _ (fun i hi=>bx i hi) c0⟩
theorem PN {T:List AV} {H:Hp} (I:rI r T H=true) (G:∀ i,¬ F.D i) (J:F.n=0) {a:Act} (h:Marks F.w.heap.size w a.defers∧∃ D α,Ok P B0 w0 D α (H[·]?) w∧aj P α (Own B0 D α (H[·]?)) w T D a.tmps.toList∧bG F.D D F.α α F.C (aP D α (H[·]?)) F.w w∧∀ i,D i→i < F.n→F.D i):cJ P B0 w0 F (fj (idx r) T) ((gY r H)[·]?) a w:=
 PO I (fun i hi=>absurd hi (G i)) (fun i hi=>by omega) h
theorem yW (keep:List Nat) (b:bQ):(pY keep b).isLive=b.isLive∧(pY keep b).jc=b.jc:=by cases b <;> exact ⟨rfl,rfl⟩
theorem yX (keep:List Nat) (H:Hp) (i:Nat):(jf keep H)[i]? =(H[i]?).map (pY keep):=List.getElem?_map
theorem abi (keep:List Nat) (H:Hp) (D:Nat→Prop) (α:Nat→Nat×Nat):aP D α ((jf keep H)[·]?)=aP D α (H[·]?):=by
 funext b
 refine propext ⟨?_, ?_⟩
 ·rintro ⟨i,k,J,G,I,M⟩
  have G:(jf keep H)[i]? =some k:=G
  rw [yX,Option.map_eq_some_iff] at G
  obtain ⟨O,U,rfl⟩:=G
  rw [(yW keep O).1] at I
  exact ⟨i,O,J,U,I,M⟩
 ·rintro ⟨i,k,J,G,I,M⟩
  have G:H[i]? =some k:=G
  exact ⟨i,pY keep k,J,by show (jf keep H)[i]? =_;rw [yX,G];rfl,by rw [(yW keep k).1];exact I,M⟩
theorem aeH {keep:List Nat} {T:List AV} {H:Hp} {a:Act} (h:cJ P B0 w0 F T (H[·]?) a w):cJ P B0 w0 F T ((jf keep H)[·]?) a w:=by
 obtain ⟨bx,D,α,I,b7,b6,bD⟩:=h
 have e1:=abi keep H D α
 have ab:Own B0 D α ((jf keep H)[·]?)=Own B0 D α (H[·]?):=by unfold Own;rw [e1]
 have O:∀ {i:Nat} {k:bQ},((jf keep H)[·]?) i=some k→∃ G,H[i]? =some G∧k=pY keep G:=by
  intro i k h
  have h:(jf keep H)[i]? =some k:=h
  rw [yX,Option.map_eq_some_iff] at h
  grind
 refine ⟨bx,D,α, ⟨?_,I.below,I.cO,by rw [e1];exact I.sep,I.fresh, ?_, ?_, ?_⟩,by grind,by grind,bD⟩
 ·intro i hi
  obtain ⟨k,Z⟩:=I.lt i hi
  have Z:H[i]? =some k:=Z
  exact ⟨pY keep k,by show (jf keep H)[i]? =_;rw [yX,Z];rfl⟩
 ·intro i j k l hi b0 M U aE a1 a7
  obtain ⟨G,J,rfl⟩:=O M
  obtain ⟨b1,a6,rfl⟩:=O U
  rw [(yW _ _).1] at aE a1
  exact I.inj i j G b1 hi b0 J a6 aE a1 a7
 ·intro i k hi M U
  obtain ⟨G,J,rfl⟩:=O M
  rw [(yW _ _).2] at U
  rw [ab]
  exact I.dc i G hi J U
 ·intro i k hi M
  obtain ⟨G,J,rfl⟩:=O M
  rw [ab]
  have hb:=I.cM i G hi J
  cases G with
  | row c ty st=>exact hb
  | loop r=>
   obtain ⟨L,q1,q2,b2,b3,b4,b5⟩:=hb
   exact ⟨L,q1,q2,b2,b3,b4,rQ b5⟩
theorem Ma {fb:Nat} {r:List Nat} (h:Dz fb r=true):∀ i,i < fb→r[i]? =some i:=by
 intro i hi
 have:=List.all_eq_true.1 h i (List.mem_range.2 hi)
 grind
theorem aeG {fb:Nat} {keep:List Nat} {T:List AV} {H:Hp} (ab:rI r (ll keep T) (jf keep H)=true) (G:Dz fb r=true) (aE:F.n≤fb) (I:∀ i,F.D i→i < fb) {a:Act} (h:cJ P B0 w0 F T (H[·]?) a w):cJ P B0 w0 F (fj (idx r) (ll keep T)) ((gY r (jf keep H))[·]?) a w:=by
 obtain ⟨M,D,α,U,Z,J,O⟩:=aeH (keep:=keep) h
 exact PO ab (fun i hi=>Ma G i (I i hi)) (fun i hi=>Ma G i (by omega)) ⟨M,D,α,U,rQ Z,J,O⟩
end
section
variable {Fn : Fence} {n : Nat} {P : Program} {Q : Exit → Act → World → Prop} {a : Act} {w : World}
theorem sH {b:Frame} {k:List Item} {cs:List Frame} {c:Code} :step P (lone (b.atR a (.code (.scope c) :: k)) cs w)= .next (lone (b.atR a (.code c :: .inScope c :: k)) cs w):=
 step_lone_go (by simp [stepG,stepG.exec,Frame.atR])
theorem aeV {b:Frame} {k:List Item} {cs:List Frame} {c:Code} :step P (lone (b.atR a (.inScope c :: k)) cs w)= .next (lone (b.atR a k) cs w):=
 step_lone_go (by simp [stepG,stepG.exec,Frame.atR])
theorem aht {c:Code} (h:c.wpIn Fn n P (Exit.noGoto Q) a w):(Code.scope c).wpIn Fn n P Q a w:=by
 intro b k cs a6 hb U
 have G:(lone (b.atR a (.code (.scope c) :: k)) cs w).fenced P Fn:=fenced_calm hb U rfl
 obtain ⟨e,M,O,J,I⟩:=h b (.inScope c :: k) cs a6 hb U
 have b0:∀ id,exitTo id (.inScope c :: k)=exitTo id k:=fun id=>by simp [exitTo]
 cases e with
 | normal=>exact ⟨.normal,M,O,J, .head G sH (StepsIn.trans I (.one (fenced_calm hb U rfl) aeV))⟩
 | exit id=>
  exact ⟨.exit id,M,O,J,fun a7 aE=> .head G sH (I.1 a7 (by grind)),
   fun a1 aE=>let ⟨bx,Z,ab⟩:=I.2 a1 (by grind); ⟨bx,Z, .head G sH ab⟩⟩
 | goto l=>exact J.elim
 | ret=>exact ⟨_,M,O,J, .of_steps (.one G sH) I⟩
 | panic bD=>exact ⟨_,M,O,J, .of_steps (.one G sH) I⟩
 | outgrown=>exact ⟨_,M,O,J, .of_steps (.one G sH) I⟩
theorem least {p:Nat→Prop} :∀ n,p n→∃ n,p n∧∀ m,m < n→¬ p m:=by
 intro n
 induction n using Nat.strongRecOn with
 | _ n G=>
  grind
theorem ahs {O:Code} (G:Nat→Act→World→Prop) (ab:∀ I a w,G I a w→O.wpIn Fn n P (Exit.then (fun U w'=>∃ m,m < I∧G m U w') Q) a w) {I:Nat} (h:G I a w):(Code.loop O).wpIn Fn n P Q a w:=by
 classical
 let M:Act→World→Nat:=fun a w=>if h:∃ n,G n a w∧∀ m,m < n→¬ G m a w then h.choose else 0
 have Z:∀ n a w,G n a w→G (M a w) a w∧M a w≤n:=by
  intro n a w J
  have aE:=least (p:=fun n=>G n a w) n J
  grind
 refine wpIn_loop (fun a w=>∃ n,G n a w) M ⟨I,h⟩ ?_
 rintro a w ⟨n,J⟩
 refine wpIn_mono (ab _ a w (Z n a w J).1) ?_
 grind
end
section
variable {R : Type} {P : Program}
structure Ends (P:Program) (rd:Bool) (fb lo:Nat) (c:Code) (T:List AV) (H:Hp) (e:Ex) (T':List AV) (H':Hp):Prop where
 len:fb≤H'.length
 keep:∀ q,q < lo→H'[q]? =H[q]?
 wp:∀ ro:Option Nat,(rd=false→ro=none)→∀ (B0:Nat→Prop) (w0:World) (F:Fr) (Q:Exit→Act→World→Prop),w0.heap.size≤F.w.heap.size→F.n≤fb→(∀ i,F.D i→i < fb)→(∀ a' w',cJ P B0 w0 F T' (H'[·]?) a' w'→Q e.to a' w')→
  ∀ a w,cJ P B0 w0 F T (H[·]?) a w→c.wpIn (W ro) 0 P Q a w
inductive lf (P:Program) (rd:Bool) (fb lo:Nat) (c:Code) (e:Ex) (T':List AV) (H':Hp):Nat→List AV→Hp→Prop
 | last {T H} :Ends P rd fb lo c T H e T' H'→e≠ .normal→lf P rd fb lo c e T' H' 0 T H
 | more {n T H T1 H1} :Ends P rd fb lo c T H .normal T1 H1→lf P rd fb lo c e T' H' n T1 H1→lf P rd fb lo c e T' H' (n+1) T H
theorem lf.len {rd:Bool} {fb lo:Nat} {c:Code} {e:Ex} {M:List AV} {G:Hp} {n:Nat} {T:List AV} {H:Hp} (h:lf P rd fb lo c e M G n T H):fb≤G.length∧∀ q,q < lo→G[q]? =H[q]? :=by
 induction h with
 | last h _=>exact ⟨h.len,h.keep⟩
 | more h _ J=>exact ⟨J.1,fun q I=>(J.2 q I).trans (h.keep q I)⟩
theorem lf.ends {rd:Bool} {fb lo:Nat} {c:Code} {e:Ex} {J:List AV} {I:Hp} {n:Nat} {T:List AV} {H:Hp} (h:lf P rd fb lo c e J I n T H):Ends P rd fb lo (.loop c) T H e J I:=by
 refine ⟨h.len.1,h.len.2,fun ro ab B0 w0 F Q aE Z U a1 a w G=> ?_⟩
 refine ahs (fun n a w=>∃ T H,lf P rd fb lo c e J I n T H∧cJ P B0 w0 F T (H[·]?) a w) ?_ ⟨T,H,h,G⟩
 rintro n a w ⟨T,H,h,G⟩
 cases h with
 | last h a6=>
  refine h.wp ro ab B0 w0 F _ aE Z U (fun O w' M=> ?_) a w G
  have:=a1 O w' M
  cases e with
  | normal=>grind
  | _=>exact this
 | more h h'=>exact h.wp ro ab B0 w0 F _ aE Z U (fun O w' M=> ⟨_,Nat.lt_succ_self _,_,_,h',M⟩) a w G
theorem Nd {rd:Bool} {fb lo:Nat} {c:Code} {Z:List AV→Hp→Cn R→Option R} (hb:∀ T H k r,fb≤H.length→Z T H k=some r→∃ e I G,k e I G=some r∧Ends P rd fb lo c T H e I G):∀ (n:Nat) (T:List AV) (H:Hp) (k:Cn R) (r:R),fb≤H.length→uI Z n T H k=some r→∃ e I G m,k e I G=some r∧lf P rd fb lo c e I G m T H
 | 0,T,H,k,r,ab,h=>by cases h
 | n+1,T,H,k,r,ab,h=>by
  obtain ⟨e,O,M,U,J⟩:=hb T H _ r ab h
  cases e with
  | normal=>
   obtain ⟨e,I,G,m,aE,a1⟩:=Nd hb n O M k r J.len U
   exact ⟨e,I,G,m+1,aE, .more J a1⟩
  | exit id=>exact ⟨_,O,M,0,U, .last J (by grind)⟩
  | ret=>exact ⟨_,O,M,0,U, .last J (by grind)⟩
end
end Go.V
namespace Go.V
open Go Go.RowKit
section
variable {R : Type} {P : Program} {B0 : Nat → Prop} {w0 : World} {D : Nat → Prop} {α : Nat → Nat × Nat} {h : Hf} {w : World}
theorem wu (H:Hp) {i:Nat} (hi:i < H.length) (k:bQ):((H.set i k)[·]?)=bh (H[·]?) i (some k):=by
 funext m
 unfold bh
 grind
theorem acE (H:Hp) (k:bQ):((H ++ [k])[·]?)=bh (H[·]?) H.length (some k):=by
 funext m
 unfold bh
 grind
theorem KD {B l:Nat} (w:World) (o:Obj) (h:B≤l):bw B w (w.putObj l o):= ⟨⟨rfl,rfl,rfl,by simp,fun k G=>World.putObj_heap_other (by omega)⟩,Nat.le_refl _⟩
theorem D9 (Z:Ok P B0 w0 D α h w) {i:Nat} (hi:D i) {G:Rec} (I:h i=some (.loop G)) (st:LoopState) (da:Option Jump):
  ∃ L,w.heap[(α i).1]? =some (.loop L)∧L.state=G.st∧L.pending=G.da.map Jump.code∧L.params=G.params∧(∃ f ps,aH P G.g G.path=some (.rangeFunc f ps L.assign L.body))∧aj P α (Own B0 D α h) w G.T D L.tmps.toList∧
   Ok P B0 w0 D α (bh h i (some (.loop { G with st:=st,da:=da }))) (w.putObj (α i).1 (.loop { L with state:=st,pending:=da.map Jump.code }))∧
   bG D D α α (aP D α h) (aP D α (bh h i (some (.loop { G with st:=st,da:=da })))) w (w.putObj (α i).1 (.loop { L with state:=st,pending:=da.map Jump.code })):=by
 obtain ⟨L,J,ab,aE,M,O,U⟩:=Z.cM i _ hi I
 refine ⟨L,J,ab,aE,M,O,U, ?_⟩
 exact za Z hi I rfl rfl (by simp) (fun b hb=>World.putObj_heap_other hb) (fun B a1=>KD w _ a1) (fun a6=> ⟨_,World.putObj_heap_same (Array.getElem?_eq_some_iff.1 J).1,rfl,rfl,M,O,aj.mono _ _ a6 U⟩)
theorem YS {G:AV} {g:FuncId} {a b:List AV} (h:funcOf G=some (g,a,b)):G= .clo (.func g) a b∨∃ x y:Array Value,G= .val (.func (.func g) x y)∧a=x.toList.map gS∧b=y.toList.map gS:=by
 unfold funcOf at h
 grind
theorem Marks.push {n:Nat} {w w1:World} {ds:List Deferred} (J:Marks n w ds) (M:w.heap.size≤w1.heap.size) (a1:∀ r:Nat,w.heap[r]? =some (Obj.deferred (some []))→w1.heap[r]? =some (Obj.deferred (some []))) (ab:w1.heap[w.heap.size]? =some (Obj.deferred (some []))):Marks n w1 ([{ target:= .collected w.heap.size,args:= #[] }] ++ ds):=by
 obtain ⟨G,O,rfl,I,U⟩:=J
 refine ⟨Nat.le_trans G M,w.heap.size :: O,rfl,List.nodup_cons.2 ⟨fun Z=> ?_,I⟩,fun r aE=> ?_⟩
 ·grind
 grind
def su (p:Option Jump):Ex:=match p with | none=> .normal | some .ret=> .ret | some (.exit n)=> .exit n
theorem ac6 {i:Nat} {T:List AV} {k:Cn R} {v:AV} {J:Hp} {r:R} (h:Fg i T k v J=some r):∃ G,J[i]? =some (.loop G)∧G.st≠ .busy∧k (su G.da) T (J.set i (.loop { G with st:= .exhausted }))=some r:=by
 unfold Fg at h
 simp only [Bool.cond_eq_ite] at h
 split at h
 ·rename_i G M
  split at h
  ·cases h
  ·rename_i hb
   refine ⟨G,M,fun e=>hb (by rw [e];rfl), ?_⟩
   split at h
   ·rename_i I;rw [show su G.da= .normal by rw [I];rfl];exact h
   ·rename_i I;rw [show su G.da= .ret by rw [I];rfl];exact h
   ·rename_i n I;rw [show su G.da= .exit n by rw [I];rfl];exact h
 ·cases h
theorem ac7 {x:Cx R} (hj:fp x) {f:Operand} {ps:Array Tmp} {assign body:Code} {p:List Bool} (gn:aH x.P x.g p=some (.rangeFunc f ps assign body)) {T:List AV} {H:Hp} {k:Cn R} {r:R} (h:Ff x f ps p T H k=some r) (hs:x.fb≤H.length) (hv:x.lo≤x.fb):
  ∃ e b4 b3,k e b4 b3=some r∧Ends x.P x.rd x.fb x.lo (.rangeFunc f ps assign body) T H e b4 b3:=by
 unfold Ff at h
 simp only [Bool.cond_eq_ite] at h
 split at h
 ·cases h
 ·rename_i eb
  have eb:x.rd=false:=by grind
  split at h
  ·rename_i q G
   obtain ⟨aE,ep,et⟩:=q
   simp only at h
   split at h
   ·rename_i Z
    obtain ⟨v,ab,eu,b6,b7,ev⟩:=hj.cf _ _ _ _ _ _ Z h
    obtain ⟨b1,e1,hn,eo⟩:=ac6 eu
    rw [List.length_append] at b6 b7
    simp only [List.length_singleton] at b6 b7
    have fs:H.length < ab.length:=by omega
    refine ⟨_,_,_,eo, ⟨by grind,fun q G=> ?_,fun ro b0 B0 w0 F Q hx ht hq e3 a w hf=> ?_⟩⟩
    ·grind
    ·have b0:=b0 eb
     subst b0
     obtain ⟨eN,D,α,c4,a7,eL,hr⟩:=hf
     refine wpIn_rangeFunc (fun fn _=> ?_)
     have bD:(aD T f).Rel x.P α (Own B0 D α (H[·]?)) w D (a.eval f):=ur f (fun d _=>aj.slot a7 d)
     obtain ⟨eg,eh,bD,hc,hd⟩:=Dx (YS G) bD
     have e5:bw w.heap.size w (w.alloc (.deferred (some []))):=(bw.refl _ _).alloc (Nat.le_refl _) _
     obtain ⟨e2,ct⟩:=oF c4 e5
     have ec:(w.alloc (.deferred (some []))).heap.size=w.heap.size+1:=by simp_all
     have gf:¬ D H.length:=fun e7=>by obtain ⟨k,c6⟩:=c4.lt _ e7;grind
     obtain ⟨U,a1⟩:=Ej e2 (n:=H.length) gf (o:= .loop { state:= .ready,pending:=none,fn,tmps:=a.tmps,params:=ps,assign,body,defers:=w.heap.size }) (fun ds=>by grind) (k:= .loop { T:=T,params:=ps,g:=x.g,path:=p,st:= .ready,da:=none }) rfl (sz:=0) (fun D' α' B' w' c6 hh=>
      ⟨_,hh,rfl,rfl,rfl, ⟨f,ps,gn⟩,aj.mono _ _ c6 (aj.mono _ _ (ct.keeps B0) a7)⟩)
     rw [← acE] at U a1
     obtain ⟨I,bx⟩:∃ I:World,I=((w.alloc (Obj.deferred (some []))).alloc (Obj.loop { state:= .ready,pending:=none,fn,tmps:=a.tmps,params:=ps,assign,body,defers:=w.heap.size })):= ⟨_,rfl⟩
     rw [← bx] at U a1
     have c0:=ct.trans a1
     have c7:=c0.keeps B0
     have e4:aj x.P (eW α H.length ((w.alloc (.deferred (some []))).heap.size,0)) (Own B0 (fE D H.length) (eW α H.length ((w.alloc (.deferred (some []))).heap.size,0)) ((H ++ [bQ.loop { T:=T,params:=ps,g:=x.g,path:=p,st:= .ready,da:=none }])[·]?)) I
       (ep ++ [.yld H.length] ++ et) (fE D H.length) (eg ++ #[Value.func (.yield (w.heap.size+1)) #[] #[]] ++ eh).toList:=by
      rw [Array.toList_append,Array.toList_append]
      refine aj.append (aj.append (aj.mono _ _ c7 hc) ⟨_, [],rfl, ⟨.inr rfl, ?_⟩,rfl⟩) (aj.mono _ _ c7 hd)
      simp_all
     have e6:=ev B0 w0 _ _ _ _ U e4
     refine ⟨w.heap.size+1, [{ target:= .collected w.heap.size,args:= #[] }],I, { target:= .fn (.func aE) eh,args:=eg ++ #[Value.func (.yield (w.heap.size+1)) #[] #[]] },I,aE,_,I,by rw [bx];exact run_enterLoop_outer fn a.tmps ps assign body, ?_,fun ho _=>trivial, ?_,(fun h=>by cases h),e6.mono ?_⟩
     ·simp only [resolve,bD,Deferred.ofValue,Sem.run_pure,List.map_toArray,List.map_cons,List.map_nil]
      rfl
     ·unfold fB at Z
      cases c5:x.P.funcs[aE]? with
      | none=>grind
      | some b5=>
       rw [c5] at Z
       simp only [Bool.and_eq_true,Bool.not_eq_true',beq_eq_false_iff_ne] at Z
       have hb:b5.body.isNone=false:=by
        simp_all
       have fv : (b5.name == "runtime.NumGoroutine") = false := by grind
       simp only [invoke,callFunc,Sem.run_bind,run_program,Result.andThen,c5,fv,hb,Bool.false_eq_true,if_false,Sem.run_pure]
     ·rintro e w3 ⟨y,b2,en,rfl,a6,ez,O,_⟩
      have fa:b2 H.length:=O.le _ (.inr rfl)
      have hl:(en H.length).1=w.heap.size+1:=by rw [O.same _ (.inr rfl),k9,ec]
      obtain ⟨L,l1,l2,ed,hy,hz,hA,M,J⟩:=D9 a6 fa e1 .exhausted b1.da
      rw [← wu ab fs] at M J
      rw [hl] at l1 M J
      have fc:=run_endLoop (P:=x.P) l1 (by grind)
      rw [← ed] at M J
      refine ⟨L.pending,_,fc, ?_⟩
      have c3:=(c0.trans O).trans J
      have eR:Marks F.w.heap.size I ([{ target:= .collected w.heap.size,args:= #[] }] ++ a.defers):=by
       rw [bx]
       refine eN.push (by rw [World.size_alloc,ec];omega) (fun r ea=> ?_) ?_
       ·have dx:=(Array.getElem?_eq_some_iff.1 ea).1
        rw [Below.heap_alloc _ _ _ (by grind),Below.heap_alloc _ _ _ dx];exact ea
       ·rw [Below.heap_alloc _ _ _ (by grind)];exact World.alloc_heap_new w _
      have hg:cJ x.P B0 w0 F T ((ab.set H.length (.loop { b1 with st:= .exhausted }))[·]?) { a with defers:= [{ target:= .collected w.heap.size,args:= #[] }] ++ a.defers } (w3.putObj (w.heap.size+1) (.loop { L with state:= .exhausted })):=by
       refine ⟨(eR.mono U a6 O).mono a6 M J,b2,en,M,aj.mono _ _ (c3.keeps B0) a7,eL.trans c3,fun i hi dx=> ?_⟩
       rcases ez i hi with (ch | ch) | ch
       ·grind
       ·omega
       grind
      have G:=e3 _ _ hg
      rw [ed] at G ⊢
      cases dy:b1.da with
      | none=>rw [dy] at G;exact G
      | some j=>
       rw [dy] at G
       cases j with
       | ret=>exact wpIn_ret G
       | exit n=>exact wpIn_exit G
   ·cases h
  ·cases h
def xg (P:Program) (g:FuncId) (n:Nat) (p:List Bool) (T:List AV) (H:Hp) (e:Ex) (I:List AV) (G:Hp):Prop:=
 (∃ J,aH P g p=some (.loop J)∧Ends P false n 0 (.loop J) T H e I G)∨∃ c,aH P g p=some c∧yU c=false∧∀ v l,I=v :: l→H.length≤G.length∧dg P g T H v G
theorem xg.loop {P:Program} {g:FuncId} {n:Nat} {p:List Bool} {T:List AV} {H:Hp} {e:Ex} {I:List AV} {G:Hp} (h:xg P g n p T H e I G) {b:Code} (U:aH P g p=some (.loop b)):∃ J,aH P g p=some (.loop J)∧Ends P false n 0 (.loop J) T H e I G:=by
 rcases h with h | ⟨c,M,O,_⟩
 ·exact h
 ·rw [U] at M;cases M;cases O
def dh (P:Program) (E:Env):Prop:=∀ g n p s T H e I G,E.L g n p=some s→s.2 T H=some (true,e,I,G)→xg P g n p T H e I G
theorem GZ {R:Type} {q:Option (Bool×Ex×List AV×Hp)} {k:Cn R} {r:R} (h:wN q k=some r):∃ e I G,q=some (true,e,I,G)∧k e I G=some r:=by
 unfold wN at h
 grind
theorem LW {T:List AV} {c:Operand} {b:Bool} (h:aD T c= .val (.bool b)):Dt T c b=T:=by
 cases c with
 | tmp d=>exact fix_eq h
 | _=>rfl
theorem nK {P:Program} {g:FuncId} {p:List Bool} {c c':Code} {b:Bool} (h:aH P g p=some c) (G:child b c=some c'):aH P g (b :: p)=some c':=by
 show (aH P g p).bind (child b)=some c'
 grind
theorem uu {x:Cx R} (eo:fp x) (c7:dh x.P x.E) (et:x.P.follows .mixedOrders=true):∀ (c:Code) (p:List Bool),aH x.P x.g p=some c→∀ (T:List AV) (H:Hp) (k:Cn R) (r:R),exec x c p T H k=some r→x.fb≤H.length→x.lo≤x.fb→
  ∃ e Z U,k e Z U=some r∧Ends x.P x.rd x.fb x.lo c T H e Z U:=by
 intro c
 induction c with
 | skip=>intro p a6 T H k r h a1 bx;exact ⟨.normal,T,H,h, ⟨a1,fun _ _=>rfl,fun ro aE B0 w0 F Q O M ab J a w G=>wpIn_skip (J a w G)⟩⟩
 | region id ops eN=>
  intro p a6 T H k r h a1 bx
  obtain ⟨Z,U,a7,I,c5,b4⟩:=YG eo rfl et h
  exact ⟨.normal,Z,U,a7, ⟨Nat.le_trans a1 I,c5 (Nat.le_trans bx a1),fun ro aE B0 w0 F Q O M ab J a w G=>b4 ro B0 w0 F Q id O (Nat.le_trans M a1) J a w G⟩⟩
 | seq y z eb ec=>
  intro p a6 T H k r h a1 bx
  rw [exec] at h
  obtain ⟨e,c4,c3,a7,I⟩:=eb _ (nK a6 rfl) T H _ r h a1 bx
  cases e with
  | normal=>
   obtain ⟨e,Z,U,c5,b4⟩:=ec _ (nK a6 rfl) c4 c3 k r a7 I.len bx
   refine ⟨e,Z,U,c5, ⟨b4.len,fun q b1=>(b4.keep q b1).trans (I.keep q b1),fun ro aE B0 w0 F Q O M ab J a w G=>wpIn_seq ?_⟩⟩
   exact I.wp ro aE B0 w0 F _ O M ab (fun bD w' b0=>b4.wp ro aE B0 w0 F Q O M ab J bD w' b0) a w G
  | exit n=>exact ⟨_,c4,c3,a7, ⟨I.len,I.keep,fun ro aE B0 w0 F Q O M ab J a w G=>wpIn_seq (by refine I.wp ro aE B0 w0 F _ O M ab (fun bD w' b0=> ?_) a w G;exact J bD w' b0)⟩⟩
  | ret=>exact ⟨_,c4,c3,a7, ⟨I.len,I.keep,fun ro aE B0 w0 F Q O M ab J a w G=>wpIn_seq (by refine I.wp ro aE B0 w0 F _ O M ab (fun bD w' b0=> ?_) a w G;exact J bD w' b0)⟩⟩
 | cond eg y z eb ec=>
  intro p a6 T H k r h a1 bx
  rw [exec] at h
  unfold Lc at h
  split at h
  ·rename_i v ea
   split at h
   ·rename_i t
    have en:∀ {B0:Nat→Prop} {w0:World} {F:Fr} {a:Act} {w:World},cJ x.P B0 w0 F T (H[·]?) a w→a.eval eg= .bool t:=by
     rintro B0 w0 F a w ⟨b7,D,α,ch,b5,_⟩
     have:=ur (P:=x.P) (D:=D) (α:=α) (B:=Own B0 D α (H[·]?)) (w:=w) (T:=T) (a:=a) eg (fun d _=>aj.slot b5 d)
     rw [ea] at this
     exact this
    cases t with
    | true=>
     simp only [cond] at h
     rw [LW ea] at h
     obtain ⟨e,Z,U,a7,I⟩:=eb _ (nK a6 rfl) T H k r h a1 bx
     exact ⟨e,Z,U,a7, ⟨I.len,I.keep,fun ro aE B0 w0 F Q O M ab J a w G=>wpIn_cond_true (en G) (I.wp ro aE B0 w0 F Q O M ab J a w G)⟩⟩
    | false=>
     simp only [cond] at h
     rw [LW ea] at h
     obtain ⟨e,Z,U,a7,I⟩:=ec _ (nK a6 rfl) T H k r h a1 bx
     exact ⟨e,Z,U,a7, ⟨I.len,I.keep,fun ro aE B0 w0 F Q O M ab J a w G=>wpIn_cond_false (en G) (I.wp ro aE B0 w0 F Q O M ab J a w G)⟩⟩
   ·cases h
  ·cases h
 | block id b3 b6=>
  intro p a6 T H k r h a1 bx
  rw [exec] at h
  obtain ⟨e,Z,U,a7,I⟩:=b6 _ (nK a6 rfl) T H _ r h a1 bx
  cases e with
  | normal=>exact ⟨.normal,Z,U,a7, ⟨I.len,I.keep,fun ro aE B0 w0 F Q O M ab J a w G=>wpIn_block (by refine I.wp ro aE B0 w0 F _ O M ab (fun bD w' b0=> ?_) a w G;exact J bD w' b0)⟩⟩
  | exit ev=>
   unfold KI at a7
   simp only [Bool.cond_eq_ite,beq_iff_eq] at a7
   split at a7
   ·rename_i dy
    exact ⟨.normal,Z,U,a7, ⟨I.len,I.keep,fun ro aE B0 w0 F Q O M ab J a w G=>wpIn_block (I.wp ro aE B0 w0 F _ O M ab (fun bD w' b0=>by simp only [Ex.to,Exit.inBlock,if_pos dy];exact J bD w' b0) a w G)⟩⟩
   ·rename_i dy
    exact ⟨.exit ev,Z,U,a7, ⟨I.len,I.keep,fun ro aE B0 w0 F Q O M ab J a w G=>wpIn_block (I.wp ro aE B0 w0 F _ O M ab (fun bD w' b0=>by simp only [Ex.to,Exit.inBlock,if_neg dy];exact J bD w' b0) a w G)⟩⟩
  | ret=>exact ⟨.ret,Z,U,a7, ⟨I.len,I.keep,fun ro aE B0 w0 F Q O M ab J a w G=>wpIn_block (by refine I.wp ro aE B0 w0 F _ O M ab (fun bD w' b0=> ?_) a w G;exact J bD w' b0)⟩⟩
 | loop b3 b6=>
  intro p a6 T H k r h a1 bx
  rw [exec] at h
  unfold Nc at h
  simp only [Bool.cond_eq_ite] at h
  have ez:uI (exec x b3 (false :: p)) x.u T H k=some r→∃ e Z U,k e Z U=some r∧Ends x.P x.rd x.fb x.lo (.loop b3) T H e Z U:=by
   intro h
   obtain ⟨e,Z,U,m,a7,I⟩:=Nd (P:=x.P) (rd:=x.rd) (fb:=x.fb) (lo:=x.lo) (c:=b3) (fun T H k r a1 h=>b6 _ (nK a6 rfl) T H k r h a1 bx) x.u T H k r a1 h
   exact ⟨e,Z,U,a7,I.ends⟩
  split at h
  ·rename_i s G
   split at h
   ·exact ez h
   ·rename_i c0
    rw [Bool.not_eq_true] at c0
    split at h
    ·rename_i eu
     rw [beq_iff_eq] at eu
     unfold pF uy at h
     simp only [Bool.cond_eq_ite] at h
     split at h
     ·rename_i ct
      obtain ⟨e,Z,U,b1,h⟩:=GZ h
      obtain ⟨ed,hb,b2⟩:=(c7 x.g _ p s _ _ e Z U G b1).loop a6
      rw [a6] at hb
      cases hb
      refine ⟨e,Z,U,h, ⟨by omega,fun q b1=>by omega,fun ro aE B0 w0 F Q O M ab J a w G=> ?_⟩⟩
      have eh:∀ i,¬ F.D i:=fun i hi=>by grind
      refine b2.wp ro (fun _=>aE c0) B0 w0 F Q O (by omega) (fun i hi=>absurd hi (eh i)) J a w ?_
      obtain ⟨b7,D,α,ch,b5,c6,dx⟩:=G
      exact PN ct eh (by omega) ⟨b7,D,α,ch,rQ b5,c6,dx⟩
     ·cases h
    ·split at h
     ·rename_i ep
      rw [beq_iff_eq] at ep
      split at h
      ·unfold Md Me at h
       simp only [Bool.cond_eq_ite,Bool.and_eq_true] at h
       split at h
       ·rename_i ct
        obtain ⟨e,Z,U,b1,h⟩:=GZ h
        obtain ⟨ed,hb,b2⟩:=(c7 x.g _ p s _ _ e Z U G b1).loop a6
        rw [a6] at hb
        cases hb
        refine ⟨e,Z,U,h, ⟨b2.len,fun q b1=>by omega,fun ro aE B0 w0 F Q O M ab J a w G=> ?_⟩⟩
        exact b2.wp ro (fun _=>aE c0) B0 w0 F Q O M ab J a w (aeG ct.1 ct.2 M ab G)
       ·cases h
      ·obtain ⟨e,Z,U,b1,h⟩:=GZ h
       obtain ⟨ed,hb,b2⟩:=(c7 x.g _ p s _ _ e Z U G b1).loop a6
       rw [a6] at hb
       cases hb
       refine ⟨e,Z,U,h, ⟨b2.len,fun q b1=>by omega,fun ro aE B0 w0 F Q O M ab J a w G=> ?_⟩⟩
       refine b2.wp ro (fun _=>aE c0) B0 w0 F Q O M ab J a w ?_
       obtain ⟨b7,D,α,ch,b5,c6,dx⟩:=G
       exact ⟨b7,D,α,ch,rQ b5,c6,dx⟩
     ·cases h
  grind
 | exit id=>intro p a6 T H k r h a1 bx;exact ⟨.exit id,T,H,h, ⟨a1,fun _ _=>rfl,fun ro aE B0 w0 F Q O M ab J a w G=>wpIn_exit (J a w G)⟩⟩
 | scope b3 b6=>
  intro p a6 T H k r h a1 bx
  rw [exec] at h
  obtain ⟨e,Z,U,a7,I⟩:=b6 _ (nK a6 rfl) T H _ r h a1 bx
  refine ⟨e,Z,U,a7, ⟨I.len,I.keep,fun ro aE B0 w0 F Q O M ab J a w G=>aht (I.wp ro aE B0 w0 F _ O M ab (fun bD w' b0=> ?_) a w G)⟩⟩
  have:=J bD w' b0
  cases e <;> exact this
 | label l=>intro p a6 T H k r h a1 bx;exact ⟨.normal,T,H,h, ⟨a1,fun _ _=>rfl,fun ro aE B0 w0 F Q O M ab J a w G=>wpIn_label (J a w G)⟩⟩
 | ret=>intro p a6 T H k r h a1 bx;exact ⟨.ret,T,H,h, ⟨a1,fun _ _=>rfl,fun ro aE B0 w0 F Q O M ab J a w G=>wpIn_ret (J a w G)⟩⟩
 | rangeFunc f ps eL b3 _ _=>
  intro p a6 T H k r h a1 bx
  rw [exec] at h
  exact ac7 eo a6 h a1 bx
 | _=>intro p a6 T H k r h;simp [exec] at h
end
end Go.V
namespace Go.V
open Go Go.RowKit
section
variable {R : Type} {P : Program}
theorem FG {T:List AV} {H:Hp} :∀ (l:List ResultVar) (K:List AV→Option R) (r:R),wi P T H l K=some r→∃ vs,K vs=some r∧
  ∀ {B0:Nat→Prop} {w0:World} {D:Nat→Prop} {α:Nat→Nat×Nat} {w:World} {tmps:Array Value},Ok P B0 w0 D α (H[·]?) w→aj P α (Own B0 D α (H[·]?)) w T D tmps.toList→∃ I,(l.mapM fun
   | .tmp t=>pure (tmps.getD t undef)
   | .cell x t=>do loadVar t (← asAddr (tmps.getD x undef)):Sem (List Value)).run P w= .ok I w∧aj P α (Own B0 D α (H[·]?)) w vs D I
 | [],K,r,h=> ⟨[],h,fun {B0 w0 D α w tmps} J G=> ⟨[],rfl,rfl⟩⟩
 | x :: l,K,r,h=>by
  unfold wi at h
  have Z:∀ (t:Nat) {B0:Nat→Prop} {D:Nat→Prop} {α:Nat→Nat×Nat} {w:World} {tmps:Array Value},aj P α (Own B0 D α (H[·]?)) w T D tmps.toList→(aD T (.tmp t)).Rel P α (Own B0 D α (H[·]?)) w D (tmps.getD t undef):=fun t {B0 D α w tmps} G=>ur (a:= { tmps:=tmps,defers:= [] }) (.tmp t) (fun d _=>aj.slot G d)
  cases x with
  | tmp t=>
   unfold Fl at h
   obtain ⟨vs,M,O⟩:=FG l _ r h
   refine ⟨_,M,fun {B0 w0 D α w tmps} J G=> ?_⟩
   obtain ⟨I,k1,U⟩:=O J G
   refine ⟨tmps.getD t undef :: I, ?_,_,I,rfl,Z t G,U⟩
   simp_all
  | cell x t=>
   unfold Fl at h
   obtain ⟨v,aE,a1⟩:=Na h
   obtain ⟨vs,M,O⟩:=FG l _ r aE
   refine ⟨_,M,fun {B0 w0 D α w tmps} J G=> ?_⟩
   obtain ⟨I,k1,U⟩:=O J G
   obtain ⟨b,off,y,a6,e1,ab⟩:=a1 (fun _ _ _ _=>rfl) J (Z x G)
   refine ⟨y :: I, ?_,_,I,rfl,ab,U⟩
   have ha:(asAddr (tmps.getD x undef)).run P w= .ok ⟨b,off,none⟩ w:=by rw [a6];rfl
   simp only [List.mapM_cons,Sem.run_bind,Sem.run_pure,ha,Result.andThen,e1,k1]
theorem acg {D:Nat→Prop} {α:Nat→Nat×Nat} {B:Nat→Prop} {w:World} {vs:List AV} {G:List Value} (k:aj P α B w vs D G):(r4 vs).Rel P α B w D (if h:G.toArray.size=1 then G.toArray[0] else .tuple G.toArray):=by
 have J:=aj.len k
 unfold r4
 split
 ·obtain ⟨y,zs,rfl,k1,O⟩:=k
  grind
 ·rename_i M
  rw [dif_neg ?_]
  ·exact ⟨_,rfl,k⟩
  ·intro I
   rw [List.size_toArray,J] at I
   cases vs with
   | nil=>cases I
   | cons v vs=>
    simp_all
theorem ab2 {B0:Nat→Prop} {w0:World} {D:Nat→Prop} {α:Nat→Nat×Nat} {h:Hf} {w:World} (I:Ok P B0 w0 D α h w) {m:Nat} {ds:Option (List Deferred)} (bx:w.heap[m]? =some (.deferred ds)) (a7:w0.heap.size≤m) (M:Option (List Deferred)):
  Ok P B0 w0 D α h (w.putObj m (.deferred M))∧eZ D D α α (Own B0 D α h) (Own B0 D α h) w (w.putObj m (.deferred M)):=by
 have aE:∀ (b:Nat) (o:Obj),w.heap[b]? =some o→(∀ ds,o≠Obj.deferred ds)→(w.putObj m (.deferred M)).heap[b]? =some o:=by
  intro b o G J
  rw [World.putObj_heap_other (fun e=>by grind)]
  exact G
 have ab:eZ D D α α (Own B0 D α h) (Own B0 D α h) w (w.putObj m (.deferred M)):= ⟨fun _ h=>h,fun _ _=>rfl,fun b cs ty fr G J=> ⟨J,aE b _ G (fun ds e=>by cases e)⟩⟩
 refine ⟨⟨I.lt,I.below.trans (KD w _ a7),fun b hb=> ?_,I.sep,fun i hi=>by rw [World.putObj_size];exact I.fresh i hi,I.inj,I.dc,fun i k hi a1=> ?_⟩,ab⟩
 ·have G:=I.cO b hb
  grind
 ·have hb:=I.cM i k hi a1
  cases k with
  | row c ty st=>
   rcases hb with hb | ⟨cs,fr,G,J,O,U,Z⟩
   ·exact .inl hb
   ·exact .inr ⟨cs,fr,aE _ _ G (fun ds e=>by cases e),J,O,U,aj.mono _ _ ab Z⟩
  | loop bD=>
   obtain ⟨L,G,J,O,U,Z,a6⟩:=hb
   exact ⟨L,aE _ _ G (fun ds e=>by cases e),J,O,U,Z,aj.mono _ _ ab a6⟩
theorem MU {B0:Nat→Prop} {w0:World} {F:Fr} {h:Hf} {T:List AV} {J:Array Value} {Z:Func} {U:Ending→World→Prop} {D:Nat→Prop} {α:Nat→Nat×Nat} (bx:w0.heap.size≤F.w.heap.size)
  (aE:∀ w,Ok P B0 w0 D α h w→aj P α (Own B0 D α h) w T D J.toList→bG F.D D F.α α F.C (aP D α h) F.w w→∃ v,(results Z J).run P w= .ok v w∧U (.returned v) w):
  ∀ (I:List Nat) (w:World),I.Nodup→(∀ r ∈ I,F.w.heap.size≤r∧w.heap[r]? =some (.deferred (some [])))→Ok P B0 w0 D α h w→aj P α (Own B0 D α h) w T D J.toList→bG F.D D F.α α F.C (aP D α h) F.w w→
   LeavesInM Fence.wide 0 P Z J U (I.map fun r=> { target:= .collected r,args:= #[] }) .returning w
 | [],w,_,_,M,O,G=>aE w M O G
 | m :: I,w,b3,a6,M,O,G=>by
  obtain ⟨b2,a1⟩:=a6 m List.mem_cons_self
  obtain ⟨b4,b5⟩:=List.nodup_cons.1 b3
  obtain ⟨b0,b1⟩:=ab2 M a1 (Nat.le_trans bx b2) none
  refine ⟨(by grind), .inl ⟨m,_,rfl,run_takeDeferred a1, ?_⟩⟩
  refine MU bx aE I _ b5 (fun r a7=> ?_) b0 (aj.mono _ _ b1 O) ⟨G.le,G.same,fun b o ab bD=> ?_⟩
  ·have:=a6 r (List.mem_cons_of_mem _ a7)
   exact ⟨this.1,(World.putObj_heap_other (fun e:r=m=>b4 (e ▸ a7))).trans this.2⟩
  ·have b6:=(Array.getElem?_eq_some_iff.1 ab).1
   have:=G.block b o ab bD
   exact ⟨this.1,(World.putObj_heap_other (by omega)).trans this.2⟩
theorem NW {D:Nat→Prop} {α:Nat→Nat×Nat} {B:Nat→Prop} {w:World} :∀ (ps:List Tmp) (T:List AV) (args:List AV) (G:Array Value) (I:List Value),aj P α B w T D G.toList→aj P α B w args D I→
  aj P α B w (wq T ps args) D ((ps.zip I).foldl (fun (G:Array Value) (p:Tmp×Value)=>G.setIfInBounds p.1 p.2) G).toList
 | [],T,args,G,I,J,ha=>by simpa [wq] using J
 | p :: ps,T, [],G,I,J,ha=>by rw [show I= [] from ha];simpa [wq] using J
 | p :: ps,T,v :: args,G,I,J,ha=>by
  obtain ⟨y,zs,rfl,M,O⟩:=ha
  exact NW ps (T.set p v) args (G.setIfInBounds p y) zs (by rw [Array.toList_setIfInBounds];exact aj.set J p M) O
theorem ads {G:Func} {k:Kn R} {e:Ex} {T:List AV} {H:Hp} {r:R} (h:Fm P G k e T H=some r):(e= .normal∨e= .ret)∧wi P T H G.results.toList (fun vs=>k (r4 vs) H)=some r:=by
 unfold Fm at h
 cases e with
 | normal=>grind
 | ret=>grind
 | exit id=>cases h
theorem CN {E:Env} {u d:Nat} (c4:∀ fb lo g rd,fp (R:=R) ⟨P,E,fS P E u d,lM P E u d,u,fb,lo,g,rd⟩) (bx:dh P E) (ea:P.follows .mixedOrders=true):Iy P (R:=R) (fS P E u (d+1)):=by
 intro lo g args H k r ev h
 unfold fS at h
 split at h
 ·cases h
 ·rename_i J c6
  split at h
  ·cases h
  ·rename_i c c3
   have en:aH P g []=some c:=by show (P.funcs[g]?).bind (·.body)=some c;grind
   split at h
   ·rename_i q G
    obtain ⟨ez,e,a1,I⟩:=q
    unfold QQ at G
    split at G
    ·rename_i s aE
     simp only [Bool.cond_eq_ite] at G
     split at G
     ·rename_i b1
      rw [Bool.and_eq_true,beq_iff_eq,Bool.not_eq_true'] at b1
      obtain ⟨rfl,dx⟩:=b1
      unfold QR at h
      simp only [Bool.cond_eq_ite] at h
      split at h
      ·rename_i ec
       subst ec
       cases a1 with
       | nil=>cases h
       | cons v l=>
        rcases bx g 0 [] s args H e (v :: l) I aE G with ⟨b,M,_⟩ | ⟨c',_,_,a7⟩
        ·rw [en] at M;cases M;cases dx
        grind
      ·cases h
     ·cases G
    ·cases G
   simp only [Bool.cond_eq_ite] at h
   split at h
   ·rename_i ab
    have ab:=of_decide_eq_true ab
    obtain ⟨e,a1,I,M,U⟩:=uu (c4 H.length lo g false) bx ea c [] (by grind) _ H _ r h (Nat.le_refl _) ab
    obtain ⟨c5,a7⟩:=ads M
    obtain ⟨vs,b4,b5⟩:=FG _ _ r a7
    refine ⟨r4 vs,I,b4,U.len,fun _=>U.keep,fun B0 w0 D α w b3 O bD=> ?_⟩
    have b0:=aj.len bD
    rw [Array.length_toList] at b0
    have aE:cJ P B0 w0 ⟨H.length,D,α,aP D α (H[·]?),w⟩ (args ++ List.replicate (J.ntmps - args.length) (.val undef)) (H[·]?) { tmps:=b3 ++ Array.replicate (J.ntmps - b3.size) undef,defers:= [] } w:=by
     refine ⟨⟨Nat.le_refl _, [],rfl,List.nodup_nil,fun r h=>by cases h⟩,D,α,O, ?_,bG.refl _ _ _ _,fun i hi _=>hi⟩
     rw [Array.toList_append,Array.toList_replicate,b0]
     refine aj.append bD ?_
     rw [show List.replicate (J.ntmps - args.length) (AV.val undef)=(List.replicate (J.ntmps - args.length) undef).map .val by simp_all]
     exact aj.vals _
    have dy:∀ i,D i→i < H.length:=fun i hi=>by obtain ⟨k,c7⟩:=O.lt i hi;grind
    refine callsIn_of_wp_marks (F:=Fence.wide) c6 c3 trivial (U.wp none (fun _=>rfl) B0 w0 ⟨H.length,D,α,aP D α (H[·]?),w⟩ _ O.below.size (Nat.le_refl _) dy (fun a6 w' eh=> ?_) _ w aE)
    obtain ⟨⟨_,ep,ed,eb,eg⟩,D',α',ch,ct,b6,et⟩:=eh
    have b2:LeavesInM Fence.wide 0 P J a6.tmps (ta P B0 w0 D α (H[·]?) w H.length I.length (r4 vs) (I[·]?)) a6.defers .returning w':=by
     rw [ed]
     refine MU (F:= ⟨H.length,D,α,aP D α (H[·]?),w⟩) O.below.size (fun w'' Z c0 b7=> ?_) ep w' eb eg ch ct b6
     obtain ⟨eL,k1,eo⟩:=b5 Z c0
     refine ⟨_, ?_,_,D',α',rfl,Z,fun i hi=> ?_,b7,acg eo⟩
     ·unfold results
      simp only [Array.mapM_eq_mapM_toList,Sem.run_bind,Sem.run_map,Result.andThen,Sem.run_pure]
      erw [k1]
     ·by_cases eu:i < H.length
      ·grind
      ·obtain ⟨k,c7⟩:=Z.lt i hi
       grind
    rcases c5 with rfl | rfl
    ·exact b2
    ·exact b2
   ·cases h
theorem Yv {i:Nat} {k:Kn R} {e:Ex} {M:List AV} {I:Hp} {r:R} (h:yt i k e M I=some r):∃ G j b st,I[i]? =some (.loop G)∧k (.val (.bool b)) (I.set i (.loop { G with st:=st,da:=j }))=some r∧e=su j∧b=j.isNone∧st=(if j.isNone then .ready else .done):=by
 unfold yt at h
 split at h
 ·rename_i G J
  cases e with
  | normal=>exact ⟨G,none,true, .ready,J,h,rfl,rfl,rfl⟩
  | ret=>exact ⟨G,some .ret,false, .done,J,h,rfl,rfl,rfl⟩
  | exit n=>exact ⟨G,some (.exit n),false, .done,J,h,rfl,rfl,rfl⟩
 ·cases h
theorem Tc {i:Nat} {B:Nat→List AV→Hp→Cn R→Option R} {k:Kn R} {e:Ex} {J:List AV} {G:Hp} {r:R} (h:CC i B k e J G=some r):∃ I,e= .normal∧G[i]? =some (.loop I)∧I.st= .ready∧B G.length J (G.set i (.loop { I with st:= .busy })) (yt i k)=some r:=by
 unfold CC at h
 grind
theorem ad2 {l:Nat} {J:Ending→World→Prop} {j:Option Jump} {a:Act} {w w':World} (G:(Instr.endRound l (j.map Jump.code)).run P w= .ok (.bool j.isNone) w') (I:J (.returned (.bool j.isNone)) w'):roundPost P l J (su j).to a w:=by
 cases j with
 | none=>exact ⟨_,_,G,I⟩
 | some j=>
  cases j with
  | ret=>exact ⟨_,_,G,I⟩
  | exit n=>exact ⟨_,_,G,I⟩
theorem ahy {E:Env} {u d:Nat} (b7:∀ fb lo g rd,fp (R:=R) ⟨P,E,fS P E u d,lM P E u d,u,fb,lo,g,rd⟩) (b4:dh P E) (c3:P.follows .mixedOrders=true):Ko P (R:=R) (lM P E u (d+1)):=by
 intro lo i args H k r h
 unfold lM at h
 split at h
 ·rename_i G c5
  split at h
  ·rename_i f ps b1 b2 bD
   simp only [Bool.cond_eq_ite] at h
   split at h
   ·rename_i c4
    simp only [Bool.and_eq_true,beq_iff_eq,decide_eq_true_eq] at c4
    obtain ⟨⟨hy,hs⟩,hv⟩:=c4
    have hi:i < H.length:=(List.getElem?_eq_some_iff.1 c5).1
    obtain ⟨e1,hf,I,ec,ab⟩:=uu (b7 H.length lo G.g true) b4 c3 b1 (false :: G.path) (nK bD rfl) _ H _ r h (Nat.le_refl _) (show lo≤H.length by omega)
    obtain ⟨gn,rfl,eR,e3,ed⟩:=Tc ec
    have ct:H.length≤I.length:=ab.len
    obtain ⟨hl,hg,Z,eg,aE⟩:=uu (b7 I.length lo G.g true) b4 c3 b2 (true :: G.path) (nK bD rfl) _ _ _ r ed (by simp) (show lo≤I.length by omega)
    obtain ⟨hL,j,b,st,e2,eh,rfl,rfl,rfl⟩:=Yv eg
    have ht:I.length≤Z.length:=aE.len
    refine ⟨_,_,eh,by grind,fun _ q U=> ?_,fun B0 w0 D α w b0 M J b6=> ?_⟩
    ·rw [List.getElem?_set_ne (by omega),aE.keep q U,List.getElem?_set_ne (by omega),ab.keep q U]
    ·obtain ⟨L,l1,l2,hz,fa, ⟨hn,hK,fc⟩,fs⟩:=M.cM i _ J c5
     rw [bD] at fc
     obtain ⟨rfl,rfl⟩:b1=L.assign∧b2=L.body:=by grind
     have eN:=aj.len b6
     rw [Array.length_toList] at eN
     have c0:∀ i,D i→i < H.length:=fun i hi=>by obtain ⟨k,eL⟩:=M.lt i hi;grind
     refine ⟨L.fn,_,L.assign,L.body,run_yield l1 (by grind), ?_⟩
     refine roundIn_of_wpIn (F:=Fence.wide) trivial ?_
     have e7:((L.params.zip b0).foldl (fun tmps (t,a)=>tmps.setIfInBounds t a) L.tmps)=(G.params.toList.zip b0.toList).foldl (fun (tmps:Array Value) (p:Tmp×Value)=>tmps.setIfInBounds p.1 p.2) L.tmps:=by
      rw [← Array.foldl_toList,Array.toList_zip,fa]
     rw [e7]
     have e4:cJ P B0 w0 ⟨H.length,D,α,aP D α (H[·]?),w⟩ (wq G.T G.params.toList args) (H[·]?) { tmps:=(G.params.toList.zip b0.toList).foldl (fun (tmps:Array Value) (p:Tmp×Value)=>tmps.setIfInBounds p.1 p.2) L.tmps,defers:= [] } w:=
      ⟨⟨Nat.le_refl _, [],rfl,List.nodup_nil,fun r h=>by cases h⟩,D,α,M,NW _ _ _ _ _ fs b6,bG.refl _ _ _ _,fun i hi _=>hi⟩
     refine ab.wp (some (α i).1) (fun h=>by cases h) B0 w0 ⟨H.length,D,α,aP D α (H[·]?),w⟩ _ M.below.size (Nat.le_refl _) c0 (fun hh w1 e5=> ?_) _ w e4
     obtain ⟨en,D1,α1,b5,et,a1,eo⟩:=e5
     have c6:α1 i=α i:=a1.same i J
     obtain ⟨hc,dx,fv,gf,hA,hB,hD,a7,O⟩:=D9 b5 (a1.le i J) eR .busy gn.da
     have eu:i < I.length:=by omega
     rw [← wu I eu,c6,← gf] at a7 O
     rw [c6] at dx
     refine ⟨_,run_beginRound dx (fv.trans e3), ?_⟩
     refine aE.wp (some (α i).1) (fun h=>by cases h) B0 w0 ⟨H.length,D,α,aP D α (H[·]?),w⟩ _ M.below.size ct (fun i hi=>Nat.lt_of_lt_of_le (c0 i hi) ct) (fun hj w2 e6=> ?_) _ _ ⟨en.mono b5 a7 O,D1,α1,a7,aj.mono _ _ (O.keeps B0) et,a1.trans O,eo⟩
     obtain ⟨ho,eb,ea,ep,hr,a6,hq⟩:=e6
     have c7:ea i=α i:=a6.same i J
     obtain ⟨hd,dy,hE,hF,hG,hI,hJ,bx,b3⟩:=D9 ep (a6.le i J) e2 (if j.isNone then .ready else .done) j
     have ev:i < Z.length:=by omega
     rw [← wu Z ev,c7] at bx b3
     rw [c7] at dy
     have ch:=run_endRound (P:=P) (j.map Jump.code) dy
     have ez:(j.map Jump.code).isNone=j.isNone:=by grind
     rw [ez] at ch
     refine ad2 ch ⟨_,eb,ea,rfl,bx,fun q U=> ?_,a6.trans b3,rfl⟩
     by_cases hx:q < H.length
     ·grind
     ·obtain ⟨k,eL⟩:=bx.lt q U
      grind
   ·cases h
  ·cases h
 ·cases h
theorem rq {E:Env} (G:bf P E.C) (I:dh P E) (J:P.follows .mixedOrders=true) (u:Nat):∀ (d fb lo:Nat) (g:FuncId) (rd:Bool),fp (R:=R) ⟨P,E,fS P E u d,lM P E u d,u,fb,lo,g,rd⟩
 | 0,fb,lo,g,rd=> ⟨G,fun lo g args H k r _ h=>by simp [fS] at h,fun lo i args H k r h=>by simp [lM] at h⟩
 | d+1,fb,lo,g,rd=> ⟨G,CN (rq G I J u d) I J,ahy (rq G I J u d) I J⟩
theorem rh {E:Env} (bD:bf P E.C) (J:dh P E) (O:P.follows .mixedOrders=true) {u d:Nat} {g:FuncId} {args:List AV} {v:AV} (b5:fB P g=true) (h:aF P E u d g args=some v) (B:Nat→Prop) (w:World) (G:Array Value) (bx:∀ b,B b→b < w.heap.size∧∀ ds,w.heap[b]?≠some (.deferred ds)) (b3:aj P cw B w args bo G.toList):
  Calls P g G w fun e w'=>∃ y,e= .returned y∧bw w.heap.size w w'∧v.Rel P cw B w' bo y:=by
 unfold aF at h
 cases d with
 | zero=>simp [fS] at h
 | succ d=>
  obtain ⟨U,I,ab,ct,_,aE⟩:=CN (R:=AV) (rq bD J O u d) J O 0 g args [] _ v b5 h
  obtain ⟨c3,a1,a6⟩:=Dy 8 U some v ab
  cases a1
  have b6:∀ b,Own B bo cw (([]:Hp)[·]?) b↔B b:=fun b=> ⟨fun h=>h.elim id (fun ⟨_,_,h,_⟩=>h.elim), .inl⟩
  have b1:Ok P B w bo cw (([]:Hp)[·]?) w:= ⟨fun i hi=>hi.elim,bw.refl _ _,bx,fun b _ ⟨_,_,h,_⟩=>h,fun i hi=>hi.elim,fun i j k l hi=>hi.elim,fun i k hi=>hi.elim,fun i k hi=>hi.elim⟩
  have b4:eZ bo bo cw cw B (Own B bo cw (([]:Hp)[·]?)) w w:= ⟨fun _ h=>h,fun _ _=>rfl,fun b cs ty fr e1 Z=> ⟨fun h=>Z ((b6 b).1 h),e1⟩⟩
  have:=aE B w bo cw w G b1 (aj.mono _ _ b4 b3)
  refine (callsIn_wide.1 this).mono ?_
  rintro e w' ⟨y,D',α',rfl,M,_,c0,b7⟩
  obtain ⟨b2,b0⟩:=y8 (cG I 8 [U]) M
  have a7:=a6 b2 (fun i c ty st hi ch=>DB _ I i c ty (ch.elim (fun e=> .inr ⟨by rw [hi,e.1],e.2⟩) (fun e=> .inl (by rw [hi,e])))) y (AV.Rel.mono _ _ (b0.keeps B) b7)
  exact ⟨y,rfl,M.below,Ee (fun b hb=> .inl hb) a7⟩
end
end Go.V
namespace Go.V
open Go Go.RowKit
noncomputable section
def cx {R:Type} (P:Program) (E:Env) (g:FuncId):Cx R:= ⟨P,E,fS P E 200 40,lM P E 200 40,200,0,0,g,false⟩
def aO (P:Program) (E:Env) (g:FuncId) (keep:List Nat) (c:Code) (p:List Bool) (T:List AV) (H:Hp):Option (Ex×List AV×Hp):=
 exec (cx P E g) c p T H fun e T H=>pF keep T H fun T H=>some (e,T,H)
end
section
variable {P : Program} {E : Env} {g : FuncId}
theorem yu {c:Code} {T:List AV} {H:Hp} {e:Ex} {O:List AV} {J:Hp} {keep:List Nat} {M:List AV} {I:Hp} (h:Ends P false 0 0 c T H e O J) (G:pF keep O J (fun T H=>some (T,H))=some (M,I)):Ends P false 0 0 c T H e M I:=by
 unfold pF uy at G
 simp only [Bool.cond_eq_ite] at G
 split at G
 ·rename_i b1
  cases G
  refine ⟨Nat.zero_le _,fun q b6=>by omega,fun ro b2 B0 w0 F Q b5 b0 ab bx a w b3=>h.wp ro b2 B0 w0 F Q b5 b0 ab (fun U w' b4=>bx U w' ?_) a w b3⟩
  have Z:∀ i,¬ F.D i:=fun i hi=>by grind
  obtain ⟨a1,D,α,a7,bD,aE,a6⟩:=b4
  exact PN b1 Z (by omega) ⟨a1,D,α,a7,rQ bD,aE,a6⟩
 ·cases G
theorem bF (Z:bf P E.C) (M:dh P E) (O:P.follows .mixedOrders=true) {keep:List Nat} {c:Code} {p:List Bool} (ab:aH P g p=some c) {T:List AV} {H:Hp} {e:Ex} {J:List AV} {I:Hp} (h:aO P E g keep c p T H=some (e,J,I)):Ends P false 0 0 c T H e J I:=by
 unfold aO at h
 obtain ⟨e1,a1,aE,G,U⟩:=uu (rq Z M O 200 40 0 0 g false) M O c p ab T H _ _ h (Nat.zero_le _) (Nat.le_refl _)
 unfold pF uy at G
 simp only [Bool.cond_eq_ite] at G
 split at G
 ·rename_i a6
  cases G
  refine yu (keep:=keep) U ?_
  unfold pF uy
  grind
 ·cases G
def av (P:Program) (c:Code) (T:List AV) (H:Hp) (e:Ex) (I:List AV) (G:Hp):Prop:=∃ n,lf P false 0 0 c e I G n T H
theorem av.more {c:Code} {T:List AV} {H:Hp} {M:List AV} {I:Hp} {e:Ex} {J:List AV} {G:Hp} (h:Ends P false 0 0 c T H .normal M I) (k:av P c M I e J G):av P c T H e J G:=by
 obtain ⟨n,k⟩:=k
 exact ⟨n+1, .more h k⟩
theorem av.last {c:Code} {T:List AV} {H:Hp} {e:Ex} {I:List AV} {G:Hp} (h:Ends P false 0 0 c T H e I G) (J:e≠ .normal):av P c T H e I G:= ⟨0, .last h J⟩
theorem av.ends {c:Code} {T:List AV} {H:Hp} {e:Ex} {I:List AV} {G:Hp} (h:av P c T H e I G):Ends P false 0 0 (.loop c) T H e I G:=by
 obtain ⟨n,h⟩:=h
 exact h.ends
def Entry (P:Program) (g:FuncId) (f:List AV→Option (Bool×AV)):Prop:=
 ∀ args r,f args=some (true,r)→∀ (B:Nat→Prop) (w:World) (G:Array Value),(∀ b,B b→b < w.heap.size∧∀ ds,w.heap[b]?≠some (.deferred ds))→aj P cw B w args bo G.toList→
  Calls P g G w fun e w'=>∃ y,e= .returned y∧bw w.heap.size w w'∧r.Rel P cw B w' bo y
theorem bg (I:bf P E.C) (J:dh P E) (M:P.follows .mixedOrders=true) (O:fB P g=true) {u d:Nat} {f:List AV→Option (Bool×AV)} (h:∀ args r,f args=some (true,r)→aF P E u d g args=some r):Entry P g f:=
 fun args r U B w ab G Z=>rh I J M O (h args r U) B w ab G Z
theorem aJ (P:Program):bf P fun _ _=>none:=fun g args r h=>by cases h
abbrev aC:=FuncId→Nat→List Bool→Option (List Nat×(List AV→Hp→Option (Bool×Ex×List AV×Hp)))
theorem aN {P:Program} {C:FuncId→List AV→Option (Bool×AV)} {K:FuncId→Bool} :dh P ⟨C,K,fun _ _ _=>none⟩:=fun g n p s T H e I G h=>by cases h
def bp (n:Nat) (g:FuncId) (p:List Bool) (keep:List Nat) (f:List AV→Hp→Option (Bool×Ex×List AV×Hp)) (L:aC):aC:=
 fun G I J=>bif G==g&&I==n&&J==p then some (keep,f) else L G I J
def mH (g:FuncId) (p:List Bool) (keep:List Nat) (f:List AV→Hp→Option (Bool×Ex×List AV×Hp)) (L:aC):aC:=bp 0 g p keep f L
def aw (g:FuncId) (f:List AV→Option (Bool×AV)) (C:FuncId→List AV→Option (Bool×AV)):FuncId→List AV→Option (Bool×AV):=
 fun G args=>bif G==g then f args else C G args
def aK:FuncId→List AV→Option (Bool×AV):=fun _ _=>none
def aq:aC:=fun _ _ _=>none
def aB (P:Program) (L:aC):Prop:=∀ g n p s T H e I G,L g n p=some s→s.2 T H=some (true,e,I,G)→xg P g n p T H e I G
theorem aB.ok {L:aC} (h:aB P L) {C:FuncId→List AV→Option (Bool×AV)} {K:FuncId→Bool} :dh P ⟨C,K,L⟩:=h
theorem aB.none:aB P aq:=fun g n p s T H e I G h=>by cases h
theorem aB.bz {L:aC} (ab:aB P L) {n:Nat} {g:FuncId} {p:List Bool} {keep:List Nat} {f:List AV→Hp→Option (Bool×Ex×List AV×Hp)} {M:Code} (hb:aH P g p=some (.loop M)) (h:∀ T H e I G,f T H=some (true,e,I,G)→Ends P false n 0 (.loop M) T H e I G):aB P (bp n g p keep f L):=by
 intro Z aE a1 s T H e I G J U
 unfold bp at J
 rw [Bool.cond_eq_ite] at J
 split at J
 ·rename_i O
  rw [Bool.and_eq_true,Bool.and_eq_true,beq_iff_eq,beq_iff_eq,beq_iff_eq] at O
  obtain ⟨⟨rfl,rfl⟩,rfl⟩:=O
  cases J
  exact .inl ⟨M,hb,h T H e I G U⟩
 ·exact ab Z aE a1 s T H e I G J U
def pg (g:FuncId) (f:List AV→Hp→Option (Bool×AV×Hp)) (L:aC):aC:=bp 0 g [] [] (fun T H=>(f T H).map fun r=>(r.1, .ret, [r.2.1],r.2.2)) L
theorem aB.pg {L:aC} (ab:aB P L) {g:FuncId} {f:List AV→Hp→Option (Bool×AV×Hp)} {c:Code} (aE:aH P g []=some c) (a1:yU c=false) (h:∀ T H v G,f T H=some (true,v,G)→H.length≤G.length∧dg P g T H v G):aB P (pg g f L):=by
 intro U a6 a7 s T H e O G I J
 unfold V.pg bp at I
 rw [Bool.cond_eq_ite] at I
 split at I
 ·rename_i M
  rw [Bool.and_eq_true,Bool.and_eq_true,beq_iff_eq,beq_iff_eq,beq_iff_eq] at M
  obtain ⟨⟨rfl,rfl⟩,rfl⟩:=M
  cases I
  simp only [Option.map_eq_some_iff] at J
  obtain ⟨r,bx,Z⟩:=J
  obtain ⟨b1,rv,b0⟩:=r
  cases Z
  exact .inr ⟨c,aE,a1,fun v l bD=>by grind⟩
 ·exact ab U a6 a7 s T H e O G I J
theorem aB.nT {L:aC} (M:aB P L) {g:FuncId} {p:List Bool} {keep:List Nat} {f:List AV→Hp→Option (Bool×Ex×List AV×Hp)} {J:Code} (hb:aH P g p=some (.loop J)) (h:∀ T H e I G,f T H=some (true,e,I,G)→Ends P false 0 0 (.loop J) T H e I G):aB P (mH g p keep f L):=M.bz hb h
theorem aB.add {L:aC} (M:aB P L) {g:FuncId} {p:List Bool} {keep:List Nat} {f:List AV→Hp→Option (Bool×Ex×List AV×Hp)} {J:Code} (hb:aH P g p=some (.loop J)) (h:∀ T H e I G,f T H=some (true,e,I,G)→av P J T H e I G):aB P (mH g p keep f L):=M.nT hb fun T H e I G O=>(h T H e I G O).ends
noncomputable def dN (P:Program) (E:Env) (n:Nat) (g:FuncId) (keep:List Nat) (c:Code) (p:List Bool) (T:List AV) (H:Hp):Option (Ex×List AV×Hp):=
 bif decide (n≤H.length) then exec ⟨P,E,fS P E 200 40,lM P E 200 40,200,n,0,g,false⟩ c p T H fun e T H=>some (e,ll keep T,H) else Option.none
theorem qp (aE:bf P E.C) (M:dh P E) (O:P.follows .mixedOrders=true) {n:Nat} {keep:List Nat} {c:Code} {p:List Bool} (b3:aH P g p=some c) {T:List AV} {H:Hp} {e:Ex} {J:List AV} {I:Hp} (h:dN P E n g keep c p T H=some (e,J,I)):Ends P false n 0 c T H e J I:=by
 unfold dN at h
 rw [Bool.cond_eq_ite] at h
 split at h
 ·rename_i U
  rw [decide_eq_true_eq] at U
  obtain ⟨e1,ct,ch,ab,G⟩:=uu (rq aE M O 200 40 n 0 g false) M O c p b3 T H _ _ h U (Nat.zero_le _)
  cases ab
  exact ⟨G.len,G.keep,fun ro b4 B0 w0 F Q b7 b2 a1 b0 a w b5=>G.wp ro b4 B0 w0 F Q b7 b2 a1 (fun Z w' b6=>b0 Z w' (by
   obtain ⟨a7,D,α,bD,b1,a6,bx⟩:=b6
   exact ⟨a7,D,α,bD,rQ b1,a6,bx⟩)) a w b5⟩
 ·cases h
def bT (P:Program) (n:Nat) (c:Code) (T:List AV) (H:Hp) (e:Ex) (I:List AV) (G:Hp):Prop:=∃ m,lf P false n 0 c e I G m T H
theorem bT.more {n:Nat} {c:Code} {T:List AV} {H:Hp} {M:List AV} {I:Hp} {e:Ex} {J:List AV} {G:Hp} (h:Ends P false n 0 c T H .normal M I) (k:bT P n c M I e J G):bT P n c T H e J G:=by
 obtain ⟨m,k⟩:=k
 exact ⟨m+1, .more h k⟩
theorem bT.last {n:Nat} {c:Code} {T:List AV} {H:Hp} {e:Ex} {I:List AV} {G:Hp} (h:Ends P false n 0 c T H e I G) (J:e≠ .normal):bT P n c T H e I G:= ⟨0, .last h J⟩
theorem bT.ends {n:Nat} {c:Code} {T:List AV} {H:Hp} {e:Ex} {I:List AV} {G:Hp} (h:bT P n c T H e I G):Ends P false n 0 (.loop c) T H e I G:=by
 obtain ⟨m,h⟩:=h
 exact h.ends
theorem bf.add {C:FuncId→List AV→Option (Bool×AV)} (M:bf P C) {f:List AV→Option (Bool×AV)} (h:Entry P g f):bf P (aw g f C):=by
 intro J args r G
 unfold aw at G
 rw [Bool.cond_eq_ite] at G
 split at G
 ·rename_i I
  rw [beq_iff_eq] at I
  subst I
  exact h args r G
 ·exact M J args r G
theorem Ends.pre {n:Nat} {c:Code} {T J:List AV} {H:Hp} {e:Ex} {I:List AV} {G:Hp} (h:Ends P false n 0 c J H e I G) (b0:∀ (α:Nat→Nat×Nat) (B:Nat→Prop) (w:World) (D:Nat→Prop) (M:List Value),aj P α B w T D M→aj P α B w J D M):Ends P false n 0 c T H e I G:=
 ⟨h.len,h.keep,fun ro bx B0 w0 F Q b1 a7 O a1 a w bD=>h.wp ro bx B0 w0 F Q b1 a7 O a1 a w (by obtain ⟨Z,D,α,aE,a6,U,ab⟩:=bD;exact ⟨Z,D,α,aE,b0 _ _ _ _ _ a6,U,ab⟩)⟩
theorem uJ {fl:Bool} {t:TypeId} {m:Nat} {f:Nat→Nat→AV} {α:Nat→Nat×Nat} {B:Nat→Prop} {w:World} {D:Nat→Prop} {x:Value} (h:(AV.lst fl t m f).Rel P α B w D x):(AV.lst false t m f).Rel P α B w D x:=by
 obtain ⟨A,cap,G,I,M,J⟩:=h
 exact ⟨A,cap,G,I,(fun h=>by cases h),J⟩
def FP:List (Nat×AV)→Nat→AV
 | [],_=> .any
 | p :: l,i=>bif p.1==i then p.2 else FP l i
def ar (n:Nat) (l:List (Nat×AV)):List AV:=(List.range n).map (FP l)
theorem bq {n:Nat} {l:List (Nat×AV)} {T:List AV} {α:Nat→Nat×Nat} {B:Nat→Prop} {w:World} {D:Nat→Prop} {U:List Value} (aE:T.length=n) (h:∀ p ∈ l,∀ y,(al T p.1).Rel P α B w D y→p.2.Rel P α B w D y) (G:aj P α B w T D U):aj P α B w (ar n l) D U:=by
 unfold ar
 refine aj.oC (by rw [aj.len G,List.length_map,List.length_range,aE]) (fun i v O=> ?_)
 rw [List.getElem?_map,Option.map_eq_some_iff] at O
 obtain ⟨j,J,rfl⟩:=O
 obtain ⟨ab,M⟩:=List.getElem?_eq_some_iff.1 J
 rw [List.getElem_range] at M
 subst M
 rw [List.length_range] at ab
 obtain ⟨y,I,Z⟩:=aj.get G (List.getElem?_eq_getElem (show i < T.length by omega))
 refine ⟨y,I, ?_⟩
 rw [← yS (List.getElem?_eq_getElem (show i < T.length by omega))] at Z
 clear J I G
 induction l with
 | nil=>trivial
 | cons p l a6=>
  unfold FP
  cases a1:(p.1==i) with
  | true=>
   grind
  | false=>simp_all
end
end Go.V
noncomputable section
namespace Go.V
open Go Go.RowKit
section
variable {P : Program} {B0 : Nat → Prop} {w0 w : World} {F : Fr}
def fM (P:Program):bQ→bQ→Prop
 | .row c ty st, .row c' M J=>(c.len=c'.len∧∀ (α:Nat→Nat×Nat) (B:Nat→Prop) (w:World) (D:Nat→Prop) (G:List Value),aj P α B w c.a8 D G→aj P α B w c'.a8 D G)∧ty=M∧st=J
 | .loop r, .loop I=>r=I
 | _,_=>False
theorem fM.refl (k:bQ):fM P k k:=by cases k <;> first | exact ⟨⟨rfl,fun _ _ _ _ _ h=>h⟩,rfl,rfl⟩ | exact rfl
theorem zY {c c':ao} (h:c.a8=c'.a8):c.len=c'.len∧∀ (α:Nat→Nat×Nat) (B:Nat→Prop) (w:World) (D:Nat→Prop) (G:List Value),aj P α B w c.a8 D G→aj P α B w c'.a8 D G:=
 ⟨by rw [← ao.e8,← ao.e8,h],fun _ _ _ _ _ k=>by grind⟩
theorem fM.live {k G:bQ} (h:fM P k G):k.isLive=G.isLive∧k.jc=G.jc:=by
 cases k with
 | row c ty st=>
  cases G with
  | row c' J I=>
   obtain ⟨_,_,rfl⟩:=h
   cases st <;> exact ⟨rfl,rfl⟩
  | loop r=>exact h.elim
 | loop r=>
  cases G with
  | row c' J I=>exact h.elim
  | loop M=>exact ⟨rfl,rfl⟩
def bC (P:Program) (H G:Hp):Prop:=H.length=G.length∧∀ (i:Nat) (k I:bQ),H[i]? =some k→G[i]? =some I→fM P k I
theorem bC.get {H G:Hp} (h:bC P H G) {i:Nat} {I:bQ} (J:G[i]? =some I):∃ k,H[i]? =some k∧fM P k I:=by
 have hi:i < H.length:=by rw [h.1];grind
 exact ⟨H[i],List.getElem?_eq_getElem hi,h.2 i _ _ (List.getElem?_eq_getElem hi) J⟩
theorem bC.get' {H G:Hp} (h:bC P H G) {i:Nat} {k:bQ} (J:H[i]? =some k):∃ I,G[i]? =some I∧fM P k I:=by
 have hi:i < G.length:=by rw [← h.1];grind
 exact ⟨G[i],List.getElem?_eq_getElem hi,h.2 i _ _ J (List.getElem?_eq_getElem hi)⟩
theorem aev {H ab:Hp} (h:bC P H ab) (D:Nat→Prop) (α:Nat→Nat×Nat):aP D α (ab[·]?)=aP D α (H[·]?):=by
 funext b
 refine propext ⟨?_, ?_⟩
 ·rintro ⟨i,k,G,I,J,M⟩
  obtain ⟨Z,O,U⟩:=h.get I
  exact ⟨i,Z,G,O,by rw [U.live.1];exact J,M⟩
 ·rintro ⟨i,k,G,I,J,M⟩
  obtain ⟨Z,O,U⟩:=h.get' I
  exact ⟨i,Z,G,O,by rw [← U.live.1];exact J,M⟩
theorem aeI {T:List AV} {H aE:Hp} (U:bC P H aE) {a:Act} (h:cJ P B0 w0 F T (H[·]?) a w):cJ P B0 w0 F T (aE[·]?) a w:=by
 obtain ⟨bD,D,α,J,ct,ch,b0⟩:=h
 have e1:=aev U D α
 have a6:Own B0 D α (aE[·]?)=Own B0 D α (H[·]?):=by unfold Own;rw [e1]
 refine ⟨bD,D,α, ⟨?_,J.below,J.cO,by rw [e1];exact J.sep,J.fresh, ?_, ?_, ?_⟩,by grind,by grind,b0⟩
 ·intro i hi
  obtain ⟨k,b2⟩:=J.lt i hi
  obtain ⟨M,I,_⟩:=U.get' b2
  grind
 ·intro i j k l hi b1 I O ab a1 a7
  obtain ⟨M,Z,G⟩:=U.get I
  obtain ⟨b3,bx,b5⟩:=U.get O
  rw [← G.live.1] at ab
  rw [← b5.live.1] at a1
  exact J.inj i j M b3 hi b1 Z bx ab a1 a7
 ·intro i k hi I O
  obtain ⟨M,Z,G⟩:=U.get I
  rw [← G.live.2] at O
  rw [a6]
  exact J.dc i M hi Z O
 ·intro i k hi I
  obtain ⟨M,Z,G⟩:=U.get I
  rw [a6]
  have hb:=J.cM i M hi Z
  cases M with
  | row c ty st=>
   cases k with
   | row c' b7 b6=>
    obtain ⟨⟨c0,q1⟩,rfl,rfl⟩:=G
    rcases hb with hb | ⟨cs,fr,I,O,ab,a1,a7⟩
    ·exact .inl hb
    ·exact .inr ⟨cs,fr,I,O,ab,by grind,by grind⟩
   | loop r=>exact G.elim
  | loop r=>
   cases k with
   | row c' b7 b6=>exact G.elim
   | loop b4=>
    have G:r=b4:=G
    grind
theorem bC.nil:bC P [] []:= ⟨rfl,fun i k G h=>by cases h⟩
theorem bC.cons {k J:bQ} {H G:Hp} (h:fM P k J) (I:bC P H G):bC P (k :: H) (J :: G):=by
 refine ⟨by rw [List.length_cons,List.length_cons,I.1],fun i l U M O=> ?_⟩
 cases i with
 | zero=>grind
 | succ i=>exact I.2 i l U M O
theorem Ends.gJ {n:Nat} {c:Code} {T:List AV} {H I:Hp} {e:Ex} {J:List AV} {G:Hp} (h:Ends P false n 0 c T I e J G) (ab:bC P H I):Ends P false n 0 c T H e J G:=
 ⟨h.len,fun q a6=>by omega,fun ro Z B0 w0 F Q a1 U M O a w aE=>h.wp ro Z B0 w0 F Q a1 U M O a w (aeI ab aE)⟩
theorem av.gJ {c:Code} {T:List AV} {H I:Hp} {e:Ex} {J:List AV} {G:Hp} (h:av P c T I e J G) (M:bC P H I):av P c T H e J G:=by
 obtain ⟨n,h⟩:=h
 cases h with
 | last h O=>exact ⟨0, .last (h.gJ M) O⟩
 | more h k=>exact ⟨_, .more (h.gJ M) k⟩
end
def aY:Value→Value→Value→Bool
 | .bool _, .string _, .string _=>true
 | _,_,_=>false
theorem j6 {x y z:Value} (h:aY x y z=true):x= .bool (az x)∧y= .string (ah y)∧z= .string (ah z):=by
 unfold aY at h
 split at h
 ·exact ⟨rfl,rfl,rfl⟩
 ·cases h
def CB (x y z:Value):AV:= .agg [.val (.bool (az x)), .val (.string (ah y)), .val (.string (ah z))]
def S9 (x y z u v t:Value):AV:= .agg [.val (.bool (az x)), .val (.string (ah y)), .val (.string (ah z)), .val (.bool (az u)), .val (.string (ah v)), .val (.string (ah t))]
def tu (c:Bool):Option (Bool×AV)→Option (Bool×AV)
 | some r=>some (c&&r.1,r.2)
 | none=>none
theorem Cv {c:Bool} {o:Option (Bool×AV)} {r:AV} (h:tu c o=some (true,r)):c=true∧o=some (true,r):=by
 cases o with
 | none=>cases h
 | some q=>
  simp only [tu,Option.some.injEq,Prod.mk.injEq,Bool.and_eq_true] at h
  grind
def gR (f:List AV→Option (Bool×AV)):List AV→Option (Bool×AV):=fun args=>match args with
 | .agg [.val x, .val y, .val z] :: l=>tu (aY x y z) (f (CB x y z :: l))
 | _=>none
def cZ (f:List AV→Option (Bool×AV)):List AV→Option (Bool×AV):=fun args=>match args with
 | .agg [.val x, .val y, .val z] :: .agg [.val u, .val v, .val t] :: l=>tu (aY x y z&&aY u v t) (f (CB x y z :: CB u v t :: l))
 | _=>none
def gP (f:List AV→Option (Bool×AV)):List AV→Option (Bool×AV):=fun args=>match args with
 | .agg [.val x, .val y, .val z, .val u, .val v, .val t] :: l=>tu (aY x y z&&aY u v t) (f (S9 x y z u v t :: l))
 | _=>none
section
variable {P : Program} {g : FuncId} {f : List AV → Option (Bool × AV)}
theorem Entry.less {G:List AV→Option (Bool×AV)} (h:Entry P g f) (I:∀ args r,G args=some (true,r)→f args=some (true,r)):Entry P g G:=fun args r J=>h args r (I args r J)
theorem Entry.gR (h:Entry P g f):Entry P g (gR f):=h.less fun args r G=>by
 unfold V.gR at G
 split at G
 ·obtain ⟨M,O⟩:=Cv G
  obtain ⟨e1,I,J⟩:=j6 M
  rw [e1,I,J];exact O
 ·cases G
theorem Entry.cZ (h:Entry P g f):Entry P g (cZ f):=h.less fun args r G=>by
 unfold V.cZ at G
 split at G
 ·obtain ⟨I,ab⟩:=Cv G
  rw [Bool.and_eq_true] at I
  obtain ⟨e1,J,M⟩:=j6 I.1
  obtain ⟨O,U,Z⟩:=j6 I.2
  rw [e1,J,M,O,U,Z];exact ab
 ·cases G
theorem Entry.gP (h:Entry P g f):Entry P g (gP f):=h.less fun args r G=>by
 unfold V.gP at G
 split at G
 ·obtain ⟨I,ab⟩:=Cv G
  rw [Bool.and_eq_true] at I
  obtain ⟨e1,J,M⟩:=j6 I.1
  obtain ⟨O,U,Z⟩:=j6 I.2
  rw [e1,J,M,O,U,Z];exact ab
 ·cases G
end
def ad (sz:Nat) (vs:List Value):Nat→Nat→AV:=fun j q=> .val (vs.getD (j*sz+q) undef)
theorem Py {sz m:Nat} {f:Nat→Nat→AV} (h:an sz m f=true) {j q:Nat} (U:j < m) (M:q < sz):f j q=ad sz (ag sz m f) j q:=by
 have hi:j*sz+q < m*sz:=by
  have:(j+1)*sz≤m*sz:=Nat.mul_le_mul_right _ U
  grind
 have I:(j*sz+q) / sz=j:=by rw [Nat.mul_comm,Nat.mul_add_div (by omega),Nat.div_eq_of_lt M,Nat.add_zero]
 have J:(j*sz+q) % sz=q:=by rw [Nat.mul_comm,Nat.mul_add_mod,Nat.mod_eq_of_lt M]
 have G:=List.all_eq_true.1 h (j*sz+q) (List.mem_range.2 hi)
 rw [I,J] at G
 unfold ad ag
 rw [List.getD_eq_getElem?_getD,List.getElem?_map,List.getElem?_range hi,Option.map_some,Option.getD_some,I,J]
 cases O:f j q with
 | val v=>rfl
 | _=>rw [O] at G;exact absurd G (by simp [isVal])
theorem lE {P:Program} {t:TypeId} {sz m:Nat} {f:Nat→Nat→AV} {fl:Bool} {α:Nat→Nat×Nat} {B:Nat→Prop} {w:World} {D:Nat→Prop} {x:Value} (Z:P.cellsOf t=sz) (h:an sz m f=true) (ab:(AV.lst fl t m f).Rel P α B w D x):(AV.lst false t m (ad sz (ag sz m f))).Rel P α B w D x:=by
 obtain ⟨A,cap,O,U,a6,G⟩:=ab
 refine ⟨A,cap,O,U,(fun h=>by cases h), ?_⟩
 rcases G with G | ⟨b,o,cs,ty,fr,q1,q2,aE,a1⟩
 ·exact .inl G
 ·refine .inr ⟨b,o,cs,ty,fr,q1,q2,aE,fun j k J I=> ?_⟩
  obtain ⟨y,e1,M⟩:=a1 j k J I
  refine ⟨y,e1, ?_⟩
  rw [Z] at I
  rw [← Py h J I]
  exact M
theorem mo {P:Program} {t u:TypeId} {sz G m n:Nat} {f g:Nat→Nat→AV} {fl J:Bool} (Z:P.cellsOf t=sz) (ab:P.cellsOf u=G) (h:an sz m f=true) (k:an G n g=true) {α:Nat→Nat×Nat} {B:Nat→Prop} {w:World} {D:Nat→Prop} {I:List Value} (aE:aj P α B w [.lst fl t m f, .lst J u n g] D I):aj P α B w [.lst false t m (ad sz (ag sz m f)), .lst false u n (ad G (ag G n g))] D I:=by
 obtain ⟨y,zs,rfl,M,z,a1,rfl,O,U⟩:=aE
 exact ⟨y,_,rfl,lE Z h M,z,_,rfl,lE ab k O,U⟩
end Go.V
end
