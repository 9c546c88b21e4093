import Derived.Test.YtamcpiicmfielaaGreatZV1
import Derived.Lib.Builder
import Derived.Lib.UnsafeStr
import Derived.Laws.Externs
import Derived.RangeFuncSeq
import Derived.Scope
set_option linter.unusedVariables false
set_option linter.unusedSimpArgs false
namespace Go.V
open Go Go.RowKit
section
variable {R : Type} {P : Program} {ro : Option Nat} {T : List AV} {o : Oper} {H : Hp} {lo : Nat} {k : Kn R} {r : R}
theorem step_append {E:Env} {c:Call} (ho:o.op= .call c) (hc:c.callee= .builtin .append) (h:stepAppend P lo T c.args.toList c.argTypes.toList H k=some r):StepOk P ro T o H (touchCall E T H c) lo k r:=by
 unfold stepAppend at h
 split at h
 ·rename_i s x ts tx ha ht
  have htc:touchCall E T H c= .some false (tid true (evA T s) ++ tid false (evA T x)):=by
   unfold touchCall
   rw [hc]
   simp only [ha]
  rw [htc]
  cases hint:intT P tx
  case true=>rw [hint,cond_true] at h;exact step_grow ho hc ha ht hint h
  rw [hint,cond_false] at h
  unfold appendA at h
  split at h
  ·rename_i e hse
   have hts:=slice_of hse
   simp only [Bool.cond_eq_ite] at h
   split at h
   ·rename_i hcond
    rw [Bool.and_eq_true] at hcond
    obtain ⟨hok,hz⟩:=hcond
    obtain ⟨cx,n,h,hcxl,hx⟩:=slice_spec h
    unfold appendTo at h
    simp only [Bool.cond_eq_ite] at h
    split at h
    ·-- to nil
     rename_i hs
     have hno:∀ j,(j,true) ∈ tid true (evA T s)→j < H.length:=fun j hj=>by rw [hs] at hj;simp [tid] at hj
     unfold appNil at h
     simp only [Bool.cond_eq_ite] at h
     split at h
     ·rename_i hn
      have hn:=of_decide_eq_true hn
      subst hn
      exact step_appNone ho hc ha ht hts hok hz h hx hno (fun {D α B w u} hu=>by rw [hs] at hu;exact ⟨none,0,0,hu,Nat.le_refl _⟩)
     ·rename_i hn
      have hn:n≠0:=fun e=>hn (decide_eq_true e)
      split at h
      ·rename_i hroom
       split at h
       ·rename_i c' happ
        obtain ⟨hav,hcl⟩:=app_spec happ (Nat.zero_le _)
        refine step_appNew (m:=0) ho hc ha ht hts hok hz (c':=c') (cx:=cx) (by rw [Nat.zero_add];exact hroom) hn (by rw [Nat.zero_add];exact h) hx (by rw [hcl,hcxl,Nat.zero_add,Nat.zero_add]) hno (fun {B0 w0 D α hf w u} hh hO hu=> ?_)
        rw [hs] at hu
        exact ⟨none,0, [], [],hu,rfl,by simp,by rw [hav];rfl,rfl,fun w2 _=>by rw [show u= .slice none 0 0 from hu];exact first_zero w2⟩
       ·cases h
      ·cases h
    ·-- to a slice of its own
     rename_i fl t' i off len hs
     split at h
     ·rename_i ht'
      rw [beq_iff_eq] at ht'
      subst ht'
      unfold appOwn at h
      simp only [Bool.cond_eq_ite] at h
      split at h
      ·rename_i c0 ty st hHi
       have hlt:=(List.getElem?_eq_some_iff.1 hHi).1
       have hwr:∀ j,(j,true) ∈ tid true (evA T s)→j < H.length:=fun j hj=>by rw [hs] at hj;simp [tid] at hj;omega
       split at h
       ·rename_i hcd
        simp only [Bool.and_eq_true,decide_eq_true_eq,beq_iff_eq] at hcd
        obtain ⟨⟨⟨⟨⟨rfl,rfl⟩,rfl⟩,hlen0⟩,hroom⟩,hone⟩:=hcd
        split at h
        ·rename_i c' happ
         obtain ⟨hav,hcl⟩:=app_spec happ hlen0
         split at h
         ·rename_i hfl
          subst hfl
          split at h
          ·rename_i hn
           have hn:=of_decide_eq_true hn
           subst hn
           refine step_appNone ho hc ha ht hts hok hz h hx hwr (fun {D α B w u} hu=> ?_)
           rw [hs] at hu
           obtain ⟨_,cap,o',he,hcap,_⟩:=hu
           exact ⟨_,_,_,he,hcap⟩
          ·rename_i hn
           have hn:n≠0:=fun e=>hn (decide_eq_true e)
           refine step_appNew (m:=len) ho hc ha ht hts hok hz (c':=c') (cx:=cx) hroom hn h hx (by rw [hcl,hcxl,Nat.add_mul]) hwr (fun {B0 w0 D α hf w u} hh hO hu=> ?_)
           rw [hs] at hu
           obtain ⟨hDi,cap,o',he,hcap,hfl,hof⟩:=hu
           have h0:hf i=some (.row c0 ty .live):=(hh i true (by rw [hs];simp [tid]) hlt).trans hHi
           obtain ⟨cs,fr,e1,e2,e3,e4,e5⟩:=blk_row hO hDi h0 rfl
           have hel:=RelL.len e5
           rw [List.length_take,Array.length_toList,Cont.avs_len] at hel
           have hlc:((cs.toList.take c0.len).take (len*P.cellsOf ty)).length=len*P.cellsOf ty:=by
            rw [List.length_take,List.length_take,Array.length_toList];omega
           refine ⟨_,cap,(cs.toList.take c0.len).take (len*P.cellsOf ty),c0.avs.take (len*P.cellsOf ty),he,hfl rfl,hlc,hav,RelL.take e5 _,fun w2 hw2=> ?_⟩
           rw [he]
           by_cases hl0:len=0
           ·subst hl0
            rw [first_zero w2]
            simp
           ·rcases hof with hof | ⟨rfl,hof⟩
            ·omega
            ·refine first_some hlc (fun j y hj=> ?_) w2 hw2
             rw [List.getElem?_take] at hj
             split at hj
             ·rw [List.getElem?_take] at hj
              split at hj
              ·rw [Array.getElem?_toList] at hj
               rw [addr_add,cell_at e1,Nat.zero_add]
               exact hj
              ·cases hj
             ·cases hj
         ·split at h
          ·cases h
          ·rename_i hlo
           exact step_appOwn ho hc ha ht hts hok hz hroom hs hHi (fun h=>hlo (decide_eq_true h)) hlen0 hone happ h hx
        ·cases h
       ·cases h
      ·cases h
     ·cases h
    ·-- to a row that has no room
     rename_i fl t' m f hs
     have hno:∀ j,(j,true) ∈ tid true (evA T s)→j < H.length:=fun j hj=>by rw [hs] at hj;simp [tid] at hj
     split at h
     ·rename_i ht'
      rw [Bool.and_eq_true,beq_iff_eq] at ht'
      obtain ⟨rfl,rfl⟩:=ht'
      unfold appLst at h
      simp only [Bool.cond_eq_ite] at h
      split at h
      ·rename_i hn
       have hn:=of_decide_eq_true hn
       subst hn
       refine step_appNone ho hc ha ht hts hok hz h hx hno (fun {D α B w u} hu=> ?_)
       rw [hs] at hu
       obtain ⟨A,cap,he,hcap,_⟩:=hu
       exact ⟨_,_,_,he,hcap⟩
      ·rename_i hn
       have hn:n≠0:=fun e=>hn (decide_eq_true e)
       split at h
       ·rename_i hroom
        obtain ⟨c0,hc0,h⟩:=rowK_spec h
        ·split at h
         ·rename_i c' happ
          have hc0l:c0.len=m*P.cellsOf e:=by rw [← Cont.avs_len,row_avs hc0,flat_len]
          obtain ⟨hav,hcl⟩:=app_spec happ (by omega)
          refine step_appNew (m:=m) ho hc ha ht hts hok hz (c':=c') (cx:=cx) hroom hn h hx (by rw [hcl,hcxl,Nat.add_mul]) hno (fun {B0 w0 D α hf w u} hh hO hu=> ?_)
          rw [hs] at hu
          obtain ⟨olds,hsrc⟩:=row_src hc0 hu
          obtain ⟨A,cap,he,hcap,hfl,_⟩:=hu
          refine ⟨A,cap,olds,c0.avs.take (m*P.cellsOf e),he,hfl rfl,hsrc.len,hav, ?_,fun w2 hw2=>hsrc.cells w2 hw2⟩
          rw [List.take_of_length_le (by rw [Cont.avs_len,hc0l];exact Nat.le_refl _)]
          exact hsrc.rel
         ·cases h
       ·cases h
     ·cases h
    ·cases h
   ·cases h
  ·cases h
 ·cases h
theorem step_new {v:AV} {b:Blk} {l:List (Nat×Bool)} (hk:k v (H ++ [b])=some r) (hw:∀ m,(m,true) ∉ l) (hnd:∀ c,o.op≠ .defer c) (hlv:b.isLive=true)
  (hr:∀ (B0:Nat→Prop) (w0:World) (h:Hf) (D:Nat→Prop) (α:Nat→Nat×Nat) (a:Act) (w:World),(∀ m b,(m,b) ∈ l→m < H.length→h m=H[m]?)→Ok P B0 w0 D α h w→(∀ x ∈ o.op.operands,(evA T x).Rel P α (Own B0 D α h) w D (a.eval x))→
   ∃ (w1:World) (ob:Obj) (sz:Nat) (x:Value),Below w.heap.size w w1∧(∀ ds,ob≠ .deferred ds)∧(execOp a.eval o).run P w= .ok (.value x) (w1.alloc ob)∧
    (∀ D' α' B' w',Keeps D D' α α' (Own B0 D α h) B' w w'→w'.heap[w1.heap.size]? =some ob→BlkRel P α' B' w' D' b (w1.heap.size,sz))∧
    (∀ D' α' B' w',D' H.length→α' H.length=(w1.heap.size,sz)→v.Rel P α' B' w' D' x)):
  StepOk P ro T o H (.some false l) lo k r:=
 ⟨v,_,hk,fun hl m hm=>List.getElem?_append_left (by omega),fun B0 w0=>head_new (fun m h=>absurd h (hw m)) hnd hlv (hr B0 w0)⟩
theorem row_exact {D:Nat→Prop} {α:Nat→Nat×Nat} {B:Nat→Prop} {w:World} {c:Cont} {cs:Array Value} {e:TypeId} {b sz:Nat} (hw:w.heap[b]? =some (.cells cs e)) (hsz:cs.size=sz) (hr:RelL P α B w c.avs D cs.toList):BlkRel P α B w D (.row c e .live) (b,sz):=by
 have hl:=RelL.len hr
 rw [Array.length_toList,Cont.avs_len] at hl
 refine .inr ⟨cs,(0,0),hw,hsz,fun _ i _=>by simp,by omega, ?_⟩
 rw [List.take_of_length_le (by rw [Array.length_toList];omega)]
 exact hr
theorem pack_avs (kd:Option IntKind) (l:List AV):(packInts kd l).avs=l:=by
 unfold packInts
 split
 ·split
  ·rename_i zs hzs;exact (decIs_spec hzs).symm
  ·rfl
 ·rfl
theorem step_alloc {elem:TypeId} (ho:o.op= .alloc elem) (h:stepAlloc P elem H k=some r):StepOk P ro T o H (.some false []) lo k r:=by
 unfold stepAlloc at h
 split at h
 ·rename_i l hl
  obtain ⟨i,z,hi,hz,rfl,hsz,_⟩:=zero_spec hl
  refine step_new h (fun m h=>by simp at h) (fun c h=>by rw [ho] at h;cases h) rfl (fun B0 w0 hf D α a w hh hO hT=> ?_)
  refine ⟨w, .cells z.cells elem,z.cells.size, .pointer (some ⟨w.heap.size,0,none⟩),Below.refl _ _,fun ds=>by simp, ?_,fun D' α' B' w' _ hw'=>row_exact hw' rfl ?_,fun D' α' B' w' hD hα=> ⟨hD,by rw [hα]⟩⟩
  ·unfold execOp
   rw [ho]
   simp [Instr.alloc,zeroValue,typeInfo,hi,hz,newVar,newRow,Sem.run_bind,Result.andThen]
  ·have:(zeroCont P elem (z.cells.toList.map .val)).avs=z.cells.toList.map .val:=by
    unfold zeroCont
    split
    ·exact pack_avs _ _
    ·rfl
   rw [this]
   exact RelL.vals _
 ·cases h
theorem step_box {elem:TypeId} {x:Operand} (ho:o.op= .box elem x) (h:stepBox elem (evA T x) H k=some r):StepOk P ro T o H (.some false []) lo k r:=by
 unfold stepBox at h
 split at h
 ·rename_i l hl
  simp only [Bool.cond_eq_ite] at h
  split at h
  ·refine step_new h (fun m h=>by simp at h) (fun c h=>by rw [ho] at h;cases h) rfl (fun B0 w0 hf D α a w hh hO hT=> ?_)
   have hx:=hT x (by rw [ho];simp [Op.operands])
   refine ⟨w, .cells (a.eval x).cells elem,(a.eval x).cells.size, .pointer (some ⟨w.heap.size,0,none⟩),Below.refl _ _,fun ds=>by simp, ?_,fun D' α' B' w' hk hw'=>row_exact hw' rfl (cells_rel hl (AV.Rel.mono _ _ hk hx)),fun D' α' B' w' hD hα=> ⟨hD,by rw [hα]⟩⟩
   unfold execOp;rw [ho];rfl
  ·cases h
 ·cases h
end
end Go.V
namespace Go.V
open Go Go.RowKit
theorem fold_set (off:Nat):∀ (l:List Value) (i:Nat) (cs:Array Value),off+i+l.length≤cs.size→((l.zipIdx i).foldl (fun cs (p:Value×Nat)=>cs.setIfInBounds (off+p.2) p.1) cs).toList=cs.toList.take (off+i) ++ l ++ cs.toList.drop (off+i+l.length)
 | [],i,cs,h=>by simp
 | v :: l,i,cs,h=>by
  rw [List.length_cons] at h
  rw [List.zipIdx_cons,List.foldl_cons,fold_set off l (i+1) _ (by rw [Array.size_setIfInBounds];omega),Array.toList_setIfInBounds]
  have hlt:off+i < cs.toList.length:=by rw [Array.length_toList];omega
  have e1:(cs.toList.set (off+i) v).take (off+(i+1))=cs.toList.take (off+i) ++ [v]:=by
   rw [← Nat.add_assoc,List.take_add_one,List.take_set_of_le (Nat.le_refl _),List.getElem?_set_self hlt]
   rfl
  have e2:(cs.toList.set (off+i) v).drop (off+(i+1)+l.length)=cs.toList.drop (off+i+(v :: l).length):=by
   rw [List.drop_set_of_lt (by omega),List.length_cons]
   congr 1
   omega
  rw [e1,e2,List.append_assoc (cs.toList.take (off+i)) [v] l]
  rfl
section
variable {P : Program} {D : Nat → Prop} {α : Nat → Nat × Nat} {B : Nat → Prop} {w : World}
def PartsRel (P:Program) (α:Nat→Nat×Nat) (B:Nat→Prop) (w:World) (D:Nat→Prop):List (Nat×AV)→List (Nat×Value)→Prop
 | [],ys=>ys= []
 | p :: ps,ys=>∃ y zs,ys=(p.1,y) :: zs∧p.2.Rel P α B w D y∧PartsRel P α B w D ps zs
theorem parts_rel {T:List AV} {a:Act} :∀ (l:List (Nat×Operand)),(∀ p ∈ l,(evA T p.2).Rel P α B w D (a.eval p.2))→PartsRel P α B w D (l.map fun p=>(p.1,evA T p.2)) (l.map fun p=>(p.1,a.eval p.2))
 | [],_=>rfl
 | p :: l,h=> ⟨_,_,rfl,h p List.mem_cons_self,parts_rel l (fun q hq=>h q (List.mem_cons_of_mem _ hq))⟩
theorem fill_spec {place place':Nat→Option (Nat×Nat)} (hp:∀ i x,place i=some x→place' i=some x):∀ (ps:List (Nat×AV)) (cells:List AV) {l:List AV},fillA place cells ps=some l→∀ (ys:List (Nat×Value)) (cs:Array Value),PartsRel P α B w D ps ys→RelL P α B w cells D cs.toList→∃ cs',Instr.fill place' cs ys=some cs'∧RelL P α B w l D cs'.toList∧cs'.size=cs.size
 | [],cells,l,h,ys,cs,hr,hc=>by cases h;rw [show ys= [] from hr];exact ⟨cs,rfl,hc,rfl⟩
 | (i,v) :: ps,cells,l,h,ys,cs,hr,hc=>by
  obtain ⟨y,zs,rfl,h1,h2⟩:=hr
  unfold fillA at h
  split at h
  ·rename_i off sz vl hpl hvl
   simp only [Bool.cond_eq_ite] at h
   split at h
   ·rename_i hcd
    rw [Bool.and_eq_true,Bool.and_eq_true,beq_iff_eq,decide_eq_true_eq] at hcd
    obtain ⟨⟨hsz,hle⟩,hone⟩:=hcd
    have hv:=cells_rel hvl h1
    have hlen:=RelL.len hv
    rw [Array.length_toList] at hlen
    have hlen2:=RelL.len hc
    rw [Array.length_toList] at hlen2
    have hfs:=fold_set off y.cells.toList 0 cs (by rw [Array.length_toList,Nat.add_zero];omega)
    have hfa:(y.cells.zipIdx.foldl (fun cs (p:Value×Nat)=>cs.setIfInBounds (off+p.2) p.1) cs).toList=cs.toList.take off ++ y.cells.toList ++ cs.toList.drop (off+y.cells.size):=by
     rw [← Array.foldl_toList,Array.toList_zipIdx]
     rw [Nat.add_zero,Array.length_toList] at hfs
     exact hfs
    obtain ⟨cs',e1,e2,e3⟩:=fill_spec hp ps _ h zs (y.cells.zipIdx.foldl (fun cs (p:Value×Nat)=>cs.setIfInBounds (off+p.2) p.1) cs) h2 (by
     rw [hfa,hlen]
     exact RelL.append (RelL.append (RelL.take hc _) hv) (RelL.drop hc _))
    have hsize:(y.cells.zipIdx.foldl (fun cs (p:Value×Nat)=>cs.setIfInBounds (off+p.2) p.1) cs).size=cs.size:=by
     have:=congrArg List.length hfa
     simp only [Array.length_toList,List.length_append,List.length_take,List.length_drop] at this
     omega
    refine ⟨cs', ?_,e2,by rw [e3,hsize]⟩
    unfold Instr.fill
    rw [hp i _ hpl]
    have hn:¬ (y.cells.size≠sz ||decide (off+y.cells.size > cs.size))=true:=by
     simp;omega
    simp only [hn]
    exact e1
   ·cases h
  ·cases h
end
section
variable {R : Type} {P : Program} {ro : Option Nat} {T : List AV} {o : Oper} {H : Hp} {lo : Nat} {k : Kn R} {r : R}
theorem run_places {w:World} :∀ (fs:List Field),fs.all (fun f=>(P.info? f.type).isSome)=true→(fs.mapM fun f=>do pure (f.offset,← sizeOf f.type):Sem (List (Nat×Nat))).run P w= .ok (fs.map fun f=>(f.offset,P.cellsOf f.type)) w
 | [],_=>rfl
 | f :: fs,h=>by
  rw [List.all_cons,Bool.and_eq_true] at h
  obtain ⟨i,hi⟩:=Option.isSome_iff_exists.1 h.1
  rw [List.mapM_cons]
  simp only [Sem.run_bind,run_sizeOf w hi,Result.andThen,Sem.run_pure,run_places fs h.2,List.map_cons]
theorem step_build {t:TypeId} {parts:Array (Nat×Operand)} (ho:o.op= .build t parts) (h:stepBuild P t (evParts T parts) H k=some r):StepOk P ro T o H (.some false []) lo k r:=by
 unfold stepBuild at h
 split at h
 ·rename_i l hl
  refine step_pure h (fun c h=>by rw [ho] at h;cases h) (fun D α B a w hT=> ?_)
  have hparts:PartsRel P α B w D (evParts T parts) (parts.toList.map fun p=>(p.1,a.eval p.2)):=parts_rel _ (fun p hp=>hT p.2 (by
   rw [ho]
   simp only [Op.operands,List.mem_toArray]
   exact List.mem_map.2 ⟨p,hp,rfl⟩))
  have hpl:(parts.map fun (x:Nat×Operand)=>(x.1,a.eval x.2)).toList=parts.toList.map fun p=>(p.1,a.eval p.2):=Array.toList_map
  unfold buildA at hl
  simp only [Bool.cond_eq_ite] at hl
  split at hl
  ·rename_i z fs hz hs
   obtain ⟨i,zv,hi,hzz,rfl,hsz,_⟩:=zero_spec hz
   split at hl
   ·rename_i hall
    obtain ⟨cs',e1,e2,_⟩:=fill_spec (P:=P) (place':=fun i=>((fs.toList.map fun f=>(f.offset,P.cellsOf f.type)).toArray)[i]?) (fun i x hx=>by
     unfold fieldPlace at hx
     simpa using hx) _ _ hl _ zv.cells hparts (RelL.vals _)
    refine ⟨.agg cs', ?_,cs',rfl,e2⟩
    unfold execOp
    rw [ho]
    simp only [Instr.build,Sem.run_bind,zeroValue,typeInfo,run_program,hi,Result.andThen,Sem.run_pure,hzz,run_underlying hs,Array.mapM_eq_mapM_toList,Sem.run_map]
    erw [run_places fs.toList hall]
    simp only [Result.andThen]
    erw [hpl,e1]
    rfl
   ·cases hl
  ·rename_i z n e hz hs
   obtain ⟨i,zv,hi,hzz,rfl,hsz,_⟩:=zero_spec hz
   split at hl
   ·rename_i hinf
    obtain ⟨ie,hie⟩:=Option.isSome_iff_exists.1 hinf
    obtain ⟨cs',e1,e2,_⟩:=fill_spec (P:=P) (place':=fun i=>some (i*P.cellsOf e,P.cellsOf e)) (fun i x hx=>hx) _ _ hl _ zv.cells hparts (RelL.vals _)
    refine ⟨.agg cs', ?_,cs',rfl,e2⟩
    unfold execOp
    rw [ho]
    simp only [Instr.build,Sem.run_bind,zeroValue,typeInfo,run_program,hi,Result.andThen,Sem.run_pure,hzz,run_underlying hs,run_sizeOf w hie]
    erw [hpl,e1]
    rfl
   ·cases hl
  ·cases hl
 ·cases h
end
end Go.V
namespace Go.V
open Go Go.RowKit
theorem made_list (z:Array Value):∀ n,(madeCells z (n*z.size)).toList=(List.replicate n z.toList).flatten
 | 0=>by simp [madeCells]
 | n+1=>by
  have ih:=made_list z n
  unfold madeCells at ih ⊢
  rw [Array.toList_map,Array.toList_range] at ih ⊢
  rw [Nat.succ_mul,List.range_add,List.map_append,ih,List.replicate_succ',List.flatten_append,List.flatten_singleton]
  congr 1
  rw [List.map_map]
  apply List.ext_getElem?
  intro i
  rw [List.getElem?_map]
  by_cases hi:i < z.size
  ·rw [List.getElem?_range hi,Array.getElem?_toList]
   simp only [Option.map_some,Function.comp]
   rw [Nat.add_comm,Nat.add_mul_mod_self_right,Nat.mod_eq_of_lt hi,Array.getElem?_eq_getElem hi,getElem!_pos z i hi]
  ·rw [List.getElem?_eq_none (by simp;omega),List.getElem?_eq_none (by simp;omega)]
   rfl
section
variable {R : Type} {P : Program} {ro : Option Nat} {T : List AV} {o : Oper} {H : Hp} {lo : Nat} {k : Kn R} {r : R}
theorem vals_flatten {D:Nat→Prop} {α:Nat→Nat×Nat} {B:Nat→Prop} {w:World} (n:Nat) (z:List Value):RelL P α B w (List.replicate n (z.map AV.val)).flatten D (List.replicate n z).flatten:=by
 have:(List.replicate n (z.map AV.val)).flatten=((List.replicate n z).flatten).map AV.val:=by rw [List.map_flatten,List.map_replicate]
 rw [this]
 exact RelL.vals _
theorem step_buildSlice {t : TypeId} {n : Nat} {parts : Array (Nat × Operand)} (ho : o.op = .buildSlice t n parts) (h : stepBuildSlice P t n (evParts T parts) H k = some r) : StepOk P ro T o H (.some false []) lo k r := by
  unfold stepBuildSlice at h
  split at h
  · rename_i e hse
    have hs := slice_of hse
    split at h
    · rename_i l hl
      refine step_new h (fun m h => by simp at h) (fun c h => by rw [ho] at h; cases h) rfl (fun B0 w0 hf D α a w hh hO hT => ?_)
      have hparts : PartsRel P α (Own B0 D α hf) w D (evParts T parts) (parts.toList.map fun p => (p.1, a.eval p.2)) := parts_rel _ (fun p hp => hT p.2 (by
        rw [ho]
        simp only [Op.operands, List.mem_toArray]
        exact List.mem_map.2 ⟨p, hp, rfl⟩))
      have hpl : (parts.map fun (x : Nat × Operand) => (x.1, a.eval x.2)).toList = parts.toList.map fun p => (p.1, a.eval p.2) := Array.toList_map
      unfold buildSliceA at hl
      simp only [Bool.cond_eq_ite] at hl
      split at hl
      · rename_i z hz
        obtain ⟨i, zv, hi, hzz, rfl, hsz, _⟩ := zero_spec hz
        split at hl
        · rename_i hcd
          rw [Bool.and_eq_true, Bool.and_eq_true, decide_eq_true_eq, beq_iff_eq, List.length_map, Array.length_toList] at hcd
          obtain ⟨⟨_, hle⟩, hzl⟩ := hcd
          obtain ⟨cs', e1, e2, e3⟩ := fill_spec (P := P) (place' := fun i => some (i * P.cellsOf e, P.cellsOf e)) (fun i x hx => hx) _ _ hl _ (madeCells zv.cells (n * zv.cells.size)) hparts (by rw [made_list]; exact vals_flatten n _)
          refine ⟨w, .cells cs' e, cs'.size, .slice (some ⟨w.heap.size, 0, none⟩) n n, Below.refl _ _, fun ds => by simp, ?_, fun D' α' B' w' hk hw' => row_exact hw' rfl (by rw [pack_avs]; exact RelL.mono _ _ hk e2), fun D' α' B' w' hD hα => ⟨hD, n, 0, by rw [hα], Nat.le_refl _, fun _ => rfl, .inr ⟨rfl, ?_⟩⟩⟩
          · unfold execOp
            rw [ho]
            have hn : ¬ (n * P.cellsOf e > 2 ^ 24) := by have : (2:Nat) ^ 24 = 16777216 := by decide
                                                         omega
            simp only [Instr.buildSlice, Sem.run_bind, run_underlying hs, Result.andThen, run_sizeOf w hi, hn, if_false, Sem.run_pure]
            by_cases h0 : n * P.cellsOf e = 0
            · have hmade : madeCells zv.cells (n * zv.cells.size) = (Array.range (n * P.cellsOf e)).map ((#[] : Array Value)[· % (#[] : Array Value).size]!) := by
                rw [hzl, h0]; simp [madeCells, Array.range_zero']
              rw [hmade] at e1
              simp only [h0, if_true, Sem.run_bind, Sem.run_pure, Result.andThen]
              rw [h0] at e1
              erw [hpl, e1]
              rfl
            · have hmade : madeCells zv.cells (n * zv.cells.size) = (Array.range (n * P.cellsOf e)).map (fun x => zv.cells[x % zv.cells.size]!) := by
                rw [← hzl]; rfl
              rw [hmade] at e1
              simp only [h0, if_false, Sem.run_bind, zeroValue, typeInfo, run_program, hi, Result.andThen, Sem.run_pure, hzz]
              erw [hpl, e1]
              rfl
          · rw [hα, Nat.zero_add, e3, ← hzl, size_madeCells]; exact Nat.le_refl _
        · cases hl
      · cases hl
    · cases h
  · cases h
theorem take_flat {β:Type} (z:List β) (l c sz:Nat) (hz:z.length=sz) (h:l≤c):(List.replicate c z).flatten.take (l*sz)=(List.replicate l z).flatten:=by
 obtain ⟨d,rfl⟩:∃ d,c=l+d:= ⟨c - l,by omega⟩
 rw [← List.replicate_append_replicate,List.flatten_append]
 have:(List.replicate l z).flatten.length=l*sz:=by simp [hz]
 rw [← this]
 exact List.take_left
theorem step_make {t:TypeId} {l c:Operand} (ho:o.op= .makeSlice t l c) (h:makeA P H t (evA T l) (evA T c) k=some r):StepOk P ro T o H (.some false []) lo k r:=by
 unfold makeA at h
 split at h
 ·rename_i e kl zl kc zc hse hel hec
  have hs:=slice_of hse
  simp only [Bool.cond_eq_ite] at h
  split at h
  ·rename_i hcd
   simp only [Bool.and_eq_true,decide_eq_true_eq] at hcd
   obtain ⟨⟨⟨h0,h1⟩,h2⟩,h3⟩:=hcd
   split at h
   ·rename_i z _ hz
    obtain ⟨i,zv,hi,hzz,rfl,hsz,hby⟩:=zero_spec hz
    split at h
    ·rename_i ct hct
     have key:zv.cells.size=P.cellsOf e∧ct.avs=(List.replicate zl.toNat (zv.cells.toList.map AV.val)).flatten:=by
      split at hct
      ·rename_i kd kd' hkd hzc
       split at hct
       ·rename_i hk
        rw [Bool.and_eq_true,decide_eq_true_eq,beq_iff_eq] at hk
        obtain ⟨rfl,hce⟩:=hk
        cases hct
        rw [hzc]
        have hone:zv.cells.size=1:=by
         have:=congrArg List.length hzc
         rwa [List.length_map,Array.length_toList] at this
        refine ⟨?_, ?_⟩
        ·rw [hone,hce]
        ·simp [Cont.avs,List.map_replicate]
       ·cases hct
      ·split at hct
       ·rename_i hl
        cases hct
        rw [beq_iff_eq,List.length_map,Array.length_toList] at hl
        exact ⟨hl,rfl⟩
       ·cases hct
     obtain ⟨hzs,hav⟩:=key
     refine step_new h (fun m h=>by simp at h) (fun c h=>by rw [ho] at h;cases h) rfl (fun B0 w0 hf D α a w hh hO hT=> ?_)
     have e1:=hT l (by rw [ho];simp [Op.operands])
     have e2:=hT c (by rw [ho];simp [Op.operands])
     rw [hel] at e1
     rw [hec] at e2
     have e1':a.eval l= .int kl zl:=e1
     have e2':a.eval c= .int kc zc:=e2
     have hlc:zl.toNat≤zc.toNat:=by omega
     refine ⟨w, .cells (madeCells zv.cells (zc.toNat*i.size)) e,zc.toNat*P.cellsOf e, .slice (some ⟨w.heap.size,0,none⟩) zl.toNat zc.toNat,Below.refl _ _,fun ds=>by simp, ?_,fun D' α' B' w' hk hw'=> ?_,fun D' α' B' w' hD hα=> ⟨hD,zc.toNat,0,by rw [hα],hlc,(fun h=>by cases h), .inr ⟨rfl,by rw [hα,Nat.zero_add];exact Nat.le_refl _⟩⟩⟩
     ·unfold execOp
      rw [ho]
      simp only [e1',e2',Sem.run_bind,run_make w t e i zv hs hi hzz kl kc zl zc h0 h1 (by rw [← hby];exact h2) h3,Result.andThen,Sem.run_pure]
     ·have hms:(madeCells zv.cells (zc.toNat*i.size)).size=zc.toNat*P.cellsOf e:=by rw [size_madeCells,hsz]
      have hcl:ct.len=zl.toNat*P.cellsOf e:=by
       rw [← Cont.avs_len,hav];simp [hzs]
      refine .inr ⟨_,_,hw',hms,fun _ j _=>by simp,by rw [hcl];exact Nat.mul_le_mul_right _ hlc, ?_⟩
      rw [hcl,← hsz,← hzs,made_list,take_flat _ _ _ _ (by rw [Array.length_toList]) hlc,hav]
      exact vals_flatten _ _
    ·cases h
   ·cases h
  ·cases h
 ·cases h
theorem freeze_new (w:World) (cs:Array Value) (e:TypeId) (n:Nat):(w.alloc (.cells cs e)).freeze ⟨w.heap.size,n,none⟩ 1=w.alloc (.cells cs e (n,n+1)):=by
 unfold World.freeze World.alloc
 simp only [Nat.one_ne_zero,if_false]
 congr 1
 apply Array.ext
 ·simp
 ·intro i h1 h2
  simp only [Array.size_modify,Array.size_push] at h1
  rw [Array.getElem_modify]
  by_cases hi:i=w.heap.size
  ·subst hi;simp
  ·rw [if_neg (Ne.symm hi),Array.getElem_push_lt (by omega),Array.getElem_push_lt (by omega)]
theorem run_mark {b:Nat} {w:World} {c:Array Value} {e:TypeId} {fr:Nat×Nat} (h:w.heap[b]? =some (.cells c e fr)):(markStringish ⟨b,0,none⟩).run P w= .ok () (w.freeze ⟨b,c.size,none⟩ 1):=by
 simp [markStringish,World.shape?,h,Sem.run_bind,Result.andThen]
theorem foldl_bytes:∀ (ns:List Int) (s:List UInt8),(ns.foldl (fun r n=>r.push (UInt8.ofNat n.toNat)) (⟨s.toArray⟩:ByteArray))= ⟨(s ++ ns.map fun z=>UInt8.ofNat z.toNat).toArray⟩
 | [],s=>by simp
 | n :: ns,s=>by
  rw [List.foldl_cons]
  have:(⟨s.toArray⟩:ByteArray).push (UInt8.ofNat n.toNat)= ⟨(s ++ [UInt8.ofNat n.toNat]).toArray⟩:=by
   unfold ByteArray.push;simp
  rw [this,foldl_bytes ns]
  simp
theorem notStr_slice {K:Cont→Nat→Option R} {t:TypeId} {v:AV} (h:sliceC P H t v K=some r) (hn:notStr v=true) {D:Nat→Prop} {α:Nat→Nat×Nat} {B:Nat→Prop} {w:World} {u:Value} (hu:v.Rel P α B w D u):∃ A m cap,u= .slice A m cap:=by
 unfold sliceC at h
 split at h
 ·exact ⟨_,_,_,hu⟩
 ·cases hn
 ·obtain ⟨_,cap,o',rfl,_⟩:=hu;exact ⟨_,_,_,rfl⟩
 ·obtain ⟨A,cap,rfl,_⟩:=hu;exact ⟨_,_,_,rfl⟩
 ·cases h
theorem step_conv {s d:TypeId} {x:Operand} (ho:o.op= .convert s d x) (h:convA P H s d (evA T x) k=some r):StepOk P ro T o H (.some false (tid false (evA T x))) lo k r:=by
 have nd:∀ c,o.op≠ .defer c:=fun c h=>by rw [ho] at h;cases h
 have run:∀ {a:Act} {w w':World} {y:Value},(convert s d (a.eval x)).run P w= .ok y w'→(execOp a.eval o).run P w= .ok (.value y) w':=by
  intro a w w' y hy
  unfold execOp
  rw [ho]
  simp only [Sem.run_bind,hy,Result.andThen,Sem.run_pure]
 have opx:x ∈ o.op.operands:=by rw [ho];simp [Op.operands]
 unfold convA at h
 simp only [Bool.cond_eq_ite] at h
 split at h
 ·rename_i ks kd hs hd
  split at h
  ·rename_i kx n hev
   have go:k (.val (.int kd (kd.wrap n))) H=some r→StepOk P ro T o H (.some false (tid false (evA T x))) lo k r:=by
    intro hk
    refine step_read hk (tid_no _) nd (fun B0 w0 hf D α a w hh hO hT=> ?_)
    have e1:=hT x opx
    rw [hev] at e1
    have e1':a.eval x= .int kx n:=e1
    refine ⟨_,run ?_,rfl⟩
    rw [e1']
    unfold convert
    simp only [Sem.run_bind,run_underlying hs,run_underlying hd,Result.andThen,Conv.intToInt,Sem.run_pure]
   split at h
   ·split at h
    ·rename_i hin;exact go (by rw [wrap_in hin];exact h)
    ·cases h
   ·exact go h
  ·cases h
 ·rename_i hs hd
  split at h
  ·rename_i st hev
   refine step_read h (tid_no _) nd (fun B0 w0 hf D α a w hh hO hT=> ?_)
   have e1:=hT x opx
   rw [hev] at e1 ⊢
   have e1':a.eval x= .string st:=e1
   refine ⟨_,run ?_,rfl⟩
   rw [e1']
   unfold convert
   simp only [Sem.run_bind,run_underlying hs,run_underlying hd,Result.andThen,Sem.run_pure]
  ·cases h
 ·rename_i e hs hd
  split at h
  ·rename_i hc
   rw [Bool.and_eq_true,Bool.and_eq_true,beq_iff_eq,beq_iff_eq] at hc
   obtain ⟨hc,hns⟩:=hc
   have hu:=kind_of hc.1
   have hsl:=fun {D α B w u} hr=>notStr_slice h hns (D:=D) (α:=α) (B:=B) (w:=w) (u:=u) hr
   obtain ⟨c,n,h,hcl,hx⟩:=slice_spec h
   split at h
   ·rename_i zs hzs
    refine step_read h (tid_no _) nd (fun B0 w0 hf D α a w hh hO hT=> ?_)
    have e1:=hT x opx
    obtain ⟨news,hsrc⟩:=hx hh hO e1
    refine ⟨.string (ofBytes zs),run ?_,rfl⟩
    obtain ⟨hav,hlen⟩:=ints_spec hzs
    have hnews:news=zs.map (.int .u8):=by
     have:=hsrc.rel
     rw [hav,show zs.map (fun z=>AV.val (.int .u8 z))=(zs.map (Value.int .u8)).map AV.val by rw [List.map_map];rfl] at this
     exact RelL.of_vals this
    have hcells:=hsrc.cells w rfl
    have hlo:=hsrc.lenOf w
    have hof:∀ ns:List Int,ns.foldl (fun r n=>r.push (UInt8.ofNat n.toNat)) ByteArray.empty=ofBytes ns:=fun ns=>by
     have:=foldl_bytes ns []
     rw [List.nil_append] at this
     exact this
    cases hv:a.eval x with
    | slice A m cap=>
     rw [hv] at hlo hcells
     have hm:m=n:=by simpa [Builtin.lenOf,Sem.run_pure] using hlo
     subst hm
     unfold convert
     simp only [Sem.run_bind,run_underlying hs,run_underlying hd,Result.andThen,run_underlying hu]
     cases A with
     | none=>
      have hm0:zs= []:=by
       rw [hc.2] at hcells
       simp only [Builtin.firstCells,Sem.run_pure,Result.ok.injEq,and_true] at hcells
       have:=congrArg Array.toList hcells
       rw [hnews] at this
       simpa using this.symm
      rw [hm0]
      rfl
     | some b=>
      have hl:(loadCells b m).run P w= .ok (zs.map (Value.int .u8)).toArray w:=by
       rw [hc.2] at hcells
       simp only [Builtin.firstCells,Nat.mul_one] at hcells
       rw [hcells,hnews]
      rw [run_bytesToString w b m cap zs hl,hof]
    | string st=>obtain ⟨A,m,cap,he⟩:=hsl e1;rw [hv] at he;cases he
    | _=>rw [hv] at hlo;simp [Builtin.lenOf,stuck] at hlo
   ·cases h
  ·cases h
 ·rename_i e hs hd
  split at h
  ·rename_i st hev
   split at h
   ·rename_i hc
    rw [Bool.and_eq_true,beq_iff_eq,beq_iff_eq] at hc
    have hu:=kind_of hc.1
    rw [hev]
    refine step_new h (fun m h=>by simp [tid] at h) nd rfl (fun B0 w0 hf D α a w hh hO hT=> ?_)
    have e1:=hT x opx
    rw [hev] at e1
    have e1':a.eval x= .string st:=e1
    have hgc:=grownCap_ge w st.size 0 e
    have hsz:((st.data.map fun b=>Value.int .u8 b.toNat) ++ Array.replicate (grownCap w st.size 0 e - st.size) (Value.int .u8 0)).size=grownCap w st.size 0 e:=by
     rw [Array.size_append,Array.size_map,Array.size_replicate]
     have:st.data.size=st.size:=rfl
     omega
    refine ⟨w.drew, .cells ((st.data.map fun b=>Value.int .u8 b.toNat) ++ Array.replicate (grownCap w st.size 0 e - st.size) (Value.int .u8 0)) e (grownCap w st.size 0 e,grownCap w st.size 0 e+1),grownCap w st.size 0 e, .slice (some ⟨w.heap.size,0,none⟩) st.size (grownCap w st.size 0 e),below_drew w,fun ds=>by simp,run ?_,fun D' α' B' w' hk hw'=> ?_,fun D' α' B' w' hD hα=> ⟨hD,_,0,by rw [hα];rfl,hgc,(fun h=>by cases h), .inr ⟨rfl,by rw [hα,hc.2,Nat.zero_add,Nat.mul_one];exact Nat.le_refl _⟩⟩⟩
    ·rw [e1']
     unfold convert
     simp only [Sem.run_bind,run_underlying hs,run_underlying hd,Result.andThen,run_underlying hu]
     have hms:=run_mark (P:=P) (w:=w.drew.alloc (.cells ((st.data.map fun b=>Value.int .u8 b.toNat) ++ Array.replicate (grownCap w st.size 0 e - st.size) (Value.int .u8 0)) e)) (b:=w.heap.size) (World.alloc_heap_new w.drew _)
     rw [hsz] at hms
     have hfz:=freeze_new w.drew ((st.data.map fun b=>Value.int .u8 b.toNat) ++ Array.replicate (grownCap w st.size 0 e - st.size) (Value.int .u8 0)) e (grownCap w st.size 0 e)
     rw [← hfz]
     have h1:(Conv.stringToBytes e st).run P w=((markStringish ⟨w.heap.size,0,none⟩).run P (w.drew.alloc (.cells ((st.data.map fun b=>Value.int .u8 b.toNat) ++ Array.replicate (grownCap w st.size 0 e - st.size) (Value.int .u8 0)) e))).andThen fun _ w'=> .ok (.slice (some ⟨w.heap.size,0,none⟩) st.size (grownCap w st.size 0 e)) w':=by
      simp [Conv.stringToBytes,newRow,Question.forced,grownCap,Sem.run_bind,Result.andThen]
     rw [h1,hms]
     rfl
    ·refine .inr ⟨_,_,hw',hsz,fun _ i hi=>by simp;omega,by show (bytesI st).length≤_;rw [bytesI_len];exact hgc, ?_⟩
     have hml:(st.data.map fun b=>Value.int .u8 (b.toNat:Int)).toList=(bytesI st).map (Value.int .u8):=by simp [bytesI]
     have:(((st.data.map fun b=>Value.int .u8 b.toNat) ++ Array.replicate (grownCap w st.size 0 e - st.size) (Value.int .u8 0)).toList.take (Cont.ints .u8 (bytesI st)).len)=(bytesI st).map (Value.int .u8):=by
      show List.take (bytesI st).length _=_
      rw [Array.toList_append,hml,List.take_append_of_le_length (by rw [List.length_map];exact Nat.le_refl _),List.take_of_length_le (by rw [List.length_map];exact Nat.le_refl _)]
     rw [this]
     show RelL P α' B' w' ((bytesI st).map fun z=>AV.val (.int .u8 z)) D' _
     rw [show (bytesI st).map (fun z=>AV.val (.int .u8 z))=((bytesI st).map (Value.int .u8)).map AV.val by rw [List.map_map];rfl]
     exact RelL.vals _
   ·cases h
  ·cases h
 ·cases h
end
end Go.V
namespace Go.V
open Go Go.RowKit
section
variable {R : Type} {P : Program} {ro : Option Nat} {T : List AV} {o : Oper} {H : Hp} {lo : Nat} {k : Kn R} {r : R}
theorem lies_own {u:TypeId} {count:Nat} (hc:P.cellsOf u≠0) (hn:1≤count):liesAt P P.depth u count 0 u 1=true:=by
 have hd:P.depth=(2*(P.types.size+Made.depth)+1)+1:=rfl
 rw [hd]
 simp only [liesAt,Bool.or_eq_true]
 left
 rw [hd]
 simp [rowAt,hc,hn,sameLayout]
theorem step_conv2 {s d:TypeId} {x:Operand} (ho:o.op= .convert s d x) (h:stepConv P H s d (evA T x) k=some r):StepOk P ro T o H (.some false (tid false (evA T x))) lo k r:=by
 have nd:∀ c,o.op≠ .defer c:=fun c h=>by rw [ho] at h;cases h
 have run:∀ {a:Act} {w w':World} {y:Value},(convert s d (a.eval x)).run P w= .ok y w'→(execOp a.eval o).run P w= .ok (.value y) w':=by
  intro a w w' y hy
  unfold execOp
  rw [ho]
  simp only [Sem.run_bind,hy,Result.andThen,Sem.run_pure]
 have opx:x ∈ o.op.operands:=by rw [ho];simp [Op.operands]
 unfold stepConv at h
 split at h
 ·rename_i i off hev
  unfold convPtr at h
  simp only [Bool.cond_eq_ite] at h
  split at h
  ·rename_i t hs hd
   split at h
   ·rename_i j c ty st hj hHi
    split at h
    ·rename_i hc
     simp only [Bool.and_eq_true,Bool.not_eq_true',decide_eq_true_eq,beq_eq_false_iff_ne] at hc
     obtain ⟨⟨h1,h2⟩,h3⟩:=hc
     have hlt:=(List.getElem?_eq_some_iff.1 hHi).1
     refine step_read h (tid_no _) nd (fun B0 w0 hf D α a w hh hO hT=> ?_)
     have hx:=hT x opx
     rw [hev] at hx hh
     obtain ⟨hi,hx⟩:=hx
     have h0:hf i=some (.row c ty st):=(hh i false (by simp [tid]) hlt).trans hHi
     obtain ⟨cs,fr,e1,e2,e3,e4,e5⟩:=blk_row hO hi h0 (by cases st <;> first | rfl | exact absurd rfl h1)
     refine ⟨_,run ?_,hi,rfl⟩
     rw [hx]
     exact Lib.run_to_unsafe w ⟨(α i).1,off,none⟩ hs hd hj h2 (e:=ty) (cells:=cs.size) (by simp [World.shape?,e1]) (by show off < cs.size;omega)
    ·cases h
   ·cases h
  ·rename_i u hs hd
   split at h
   ·rename_i j c ty st hj hHi
    split at h
    ·rename_i hc
     simp only [Bool.and_eq_true,Bool.not_eq_true',decide_eq_true_eq,beq_iff_eq,beq_eq_false_iff_ne] at hc
     obtain ⟨⟨⟨⟨h1,rfl⟩,rfl⟩,h4⟩,h5⟩:=hc
     have hlt:=(List.getElem?_eq_some_iff.1 hHi).1
     refine step_read h (tid_no _) nd (fun B0 w0 hf D α a w hh hO hT=> ?_)
     have hx:=hT x opx
     rw [hev] at hx hh
     obtain ⟨hi,hx⟩:=hx
     have h0:hf i=some (.row c ty st):=(hh i false (by simp [tid]) hlt).trans hHi
     obtain ⟨cs,fr,e1,e2,e3,e4,e5⟩:=blk_row hO hi h0 (by cases st <;> first | rfl | exact absurd rfl h1)
     refine ⟨_,run ?_,hi,rfl⟩
     rw [hx]
     refine Lib.run_from_unsafe w ⟨(α i).1,0,none⟩ hs hd hj (e:=ty) (cells:=cs.size) (by simp [World.shape?,e1]) (lies_own (by omega) ?_)
     exact (Nat.one_le_div_iff h4).2 (by omega)
    ·cases h
   ·cases h
  ·cases h
 ·exact step_conv ho h
theorem run_ptr_same {tp te:TypeId} {j:TypeInfo} {w:World} (a:Addr) (hp:P.underlying tp=some (.pointer te)) (hte:P.info? te=some j):(binOp .eql tp (.pointer (some a)) (.pointer (some a))).run P w= .ok (.bool true) w:=by
 have h:∀ d:Nat,(Op.equalIn (d+1) tp (.pointer (some a)) (.pointer (some a))).run P w= .ok true w:=fun d=>by
  simp [Op.equalIn,run_underlying hp,sizeOf,typeInfo,hte,run_sameAddr_same]
 simp only [binOp]
 simp [Op.equal,Op.maxDepth,h 9999]
theorem step_bin2 {op:BinOp} {t ty:TypeId} {x y:Operand} (ho:o.op= .binOp op t x y ty) (h:stepBin2 P op t (evA T x) (evA T y) H k=some r):StepOk P ro T o H (.some false []) lo k r:=by
 have nd:∀ c,o.op≠ .defer c:=fun c h=>by rw [ho] at h;cases h
 unfold stepBin2 at h
 split at h
 ·rename_i i off j off' e1 e2
  have go:∀ {b:Bool},i=j→off=off'→k (.val (.bool b)) H=some r→(∀ (a:Addr) (w:World),(binOp op t (.pointer (some a)) (.pointer (some a))).run P w= .ok (.bool b) w)→StepOk P ro T o H (.some false []) lo k r:=by
   intro b hi hoff hk hr
   subst hi hoff
   refine step_read hk (fun m h=>by simp at h) nd (fun B0 w0 hf D α a w hh hO hT=> ?_)
   have h1:=hT x (by rw [ho];simp [Op.operands])
   have h2:=hT y (by rw [ho];simp [Op.operands])
   rw [e1] at h1
   rw [e2] at h2
   exact ⟨.bool b,run_bin ho h1.2 h2.2 (guard_any (fun xs h=>by cases h) (fun h=>by cases h)) (hr _ _),rfl⟩
  unfold ptrBin at h
  simp only [Bool.cond_eq_ite] at h
  split at h
  ·rename_i te hp
   split at h
   ·rename_i hc
    simp only [Bool.and_eq_true,beq_iff_eq] at hc
    obtain ⟨j,hj⟩:=Option.isSome_iff_exists.1 hc.2
    exact go hc.1.1 hc.1.2 h (fun a w=>run_ptr_same a hp hj)
   ·cases h
  ·rename_i te hp
   split at h
   ·rename_i hc
    simp only [Bool.and_eq_true,beq_iff_eq] at hc
    obtain ⟨j,hj⟩:=Option.isSome_iff_exists.1 hc.2
    exact go hc.1.1 hc.1.2 h (fun a w=>Lib.run_neq_ptr_same w a hp hj)
   ·cases h
  ·cases h
 ·exact step_bin ho h
theorem step_data {c:Call} (ho:o.op= .call c) (hc:c.callee= .builtin .unsafeSliceData) (h:stepData P T o c.args.toList H k=some r):StepOk P ro T o H (.some false []) lo k r:=by
 have nd:∀ c,o.op≠ .defer c:=fun c h=>by rw [ho] at h;cases h
 unfold stepData at h
 simp only [Bool.cond_eq_ite] at h
 split at h
 ·rename_i x hx
  split at h
  ·rename_i fl t i off len hev
   split at h
   ·cases h
   ·rename_i hl
    refine step_read h (fun m h=>by simp at h) nd (fun B0 w0 hf D α a w hh hO hT=> ?_)
    have hxm:x ∈ c.args:=Array.mem_toList_iff.1 (by rw [hx];exact List.mem_singleton.2 rfl)
    have h1:=hT x (by rw [ho];simp only [Op.operands,Call.operands,Array.mem_append];exact .inr hxm)
    rw [hev] at h1
    obtain ⟨hi,cap,o',h2,h3,_,h5⟩:=h1
    have hcap:cap≠0:=by
     have:len≠0:=by simpa using hl
     omega
    obtain ⟨rfl,_⟩:=h5.resolve_left hcap
    refine ⟨_, ?_,hi,rfl⟩
    obtain ⟨cal,as,ts⟩:=c
    simp only at hc hx
    subst hc
    have has:as= #[x]:=by apply Array.toList_inj.1;rw [hx]
    subst has
    have hm:Array.map a.eval #[x]= #[a.eval x]:=by simp
    unfold execOp
    rw [ho]
    simp only [resolve,Sem.run_bind,Sem.run_pure,Result.andThen,invoke,builtin,hm,h2,Lib.run_unsafeSliceData_row w ts o.type _ _ _ hcap]
  ·exact step_plain nd h
  ·cases h
 ·cases h
theorem ok_frz {B0:Nat→Prop} {w0:World} {D:Nat→Prop} {α:Nat→Nat×Nat} {h:Hf} {w w':World} (hO:Ok P B0 w0 D α h w) {i:Nat} (hi:D i) {c:Cont} {ty:TypeId} (h0:h i=some (.row c ty .live)) (hsz:w'.heap.size=w.heap.size) (hother:∀ b,b≠(α i).1→w'.heap[b]? =w.heap[b]?)
  (hbel:∀ B,B≤(α i).1→Below B w w') (hat:∀ cs fr,w.heap[(α i).1]? =some (.cells cs ty fr)→∃ fr',w'.heap[(α i).1]? =some (.cells cs ty fr')):
  Ok P B0 w0 D α (upd h i (some (.row c ty .froz))) w'∧Goes D D α α (OwnD D α h) (OwnD D α (upd h i (some (.row c ty .froz)))) w w':=by
 have hme:OwnD D α h (α i).1:= ⟨i,_,hi,h0,rfl,rfl⟩
 have hown:∀ b,OwnD D α (upd h i (some (.row c ty .froz))) b→OwnD D α h b∧b≠(α i).1:=by
  rintro b ⟨j,k',hj,h1,h2,h3⟩
  by_cases e:j=i
  ·subst e;rw [upd_self] at h1;cases h1;cases h2
  ·rw [upd_ne _ _ e] at h1
   exact ⟨⟨j,k',hj,h1,h2,h3⟩,fun e2=>e (hO.inj j i k' _ hj hi h1 h0 h2 rfl (h3.trans e2))⟩
 have hg:Goes D D α α (OwnD D α h) (OwnD D α (upd h i (some (.row c ty .froz)))) w w':= ⟨fun _ h=>h,fun _ _=>rfl,fun b o h1 h2=> ⟨fun h=>h2 (hown b h).1,(hother b (fun e=>h2 (e ▸ hme))).trans h1⟩⟩
 refine ⟨⟨fun j hj=> ?_,hO.below.trans (hbel _ (hO.fresh i hi).1),fun b hB=> ?_,fun b hB hc=>hO.sep b hB (hown b hc).1,fun j hj=>by rw [hsz];exact hO.fresh j hj, ?_, ?_, ?_⟩,hg⟩
 ·by_cases e:j=i
  ·subst e;exact ⟨_,upd_self _ _ _⟩
  ·rw [upd_ne _ _ e];exact hO.lt j hj
 ·have h1:=hO.old b hB
  refine ⟨by rw [hsz];exact h1.1,fun ds=> ?_⟩
  rw [hother b (fun e=>hO.sep b hB (e ▸ hme))]
  exact h1.2 ds
 ·intro a b ka kb ha hb h1 h2 h3 h4 h5
  have ne:∀ j k,upd h i (some (.row c ty .froz)) j=some k→k.isLive=true→j≠i:=by
   rintro j k hk hl rfl
   rw [upd_self] at hk
   cases hk
   cases hl
  have ea:=ne a ka h1 h3
  have eb:=ne b kb h2 h4
  rw [upd_ne _ _ ea] at h1
  rw [upd_ne _ _ eb] at h2
  exact hO.inj a b ka kb ha hb h1 h2 h3 h4 h5
 ·intro j k hj h1 h2 hc
  by_cases e:j=i
  ·subst e
   rcases hc with hc | hc
   ·exact hO.sep _ hc hme
   ·exact (hown _ hc).2 rfl
  ·rw [upd_ne _ _ e] at h1
   exact hO.frz j k hj h1 h2 (hc.elim .inl (fun h=> .inr (hown _ h).1))
 ·intro j k hj h1
  by_cases e:j=i
  ·subst e
   rw [upd_self] at h1
   cases h1
   rcases hO.blk j _ hi h0 with hd | ⟨cs,fr,h1,h2,h3,h4,h5⟩
   ·cases hd
   ·obtain ⟨fr',h6⟩:=hat cs fr h1
    exact .inr ⟨cs,fr',h6,h2,(fun h=>by cases h),h4,RelL.mono _ _ (hg.keeps B0) h5⟩
  ·rw [upd_ne _ _ e] at h1
   refine BlkRel.mono (hg.keeps B0) (fun o ho hlf=>(hother _ (fun e2=> ?_)).trans ho) (hO.blk j k hj h1)
   rcases hlf with hlf | hlf
   ·exact e (hO.inj j i k _ hj hi h1 h0 hlf rfl e2)
   ·exact hO.frz j k hj h1 hlf (.inr (e2 ▸ hme))
theorem run_bytes {w:World} :∀ (l:List Int) (a:Addr) (acc:ByteArray),(∀ z ∈ l,inR .u8 z=true)→(∀ (j:Nat) (z:Int),l[j]? =some z→w.cell? (a.add j)=some (.int .u8 z))→(loadBytes a acc l.length).run P w= .ok ⟨acc.data ++ (l.map fun z=>UInt8.ofNat z.toNat).toArray⟩ w
 | [],a,acc,_,_=>by simp [loadBytes]
 | z :: l,a,acc,hr,h=>by
  have h0:w.cell? a=some (.int .u8 z):=by
   have:=h 0 z rfl
   simpa [Addr.add] using this
  have ih:=run_bytes l (a.add 1) (acc.push (UInt8.ofNat z.toNat)) (fun z hz=>hr z (List.mem_cons_of_mem _ hz)) (fun j y hy=>by
   have:=h (j+1) y (by simpa using hy)
   have e:(a.add 1).add j=a.add (j+1):=by
    unfold Addr.add
    by_cases hj:j=0
    ·subst hj;simp
    ·simp [hj];omega
   rw [e];exact this)
  simp only [List.length_cons,loadBytes,Sem.run_bind,run_load,h0,Result.andThen]
  show Sem.run P (loadBytes (a.add 1) (acc.push (UInt8.ofNat z.toNat)) l.length) w=_
  rw [ih]
  congr 1
  apply ByteArray.ext
  simp [ByteArray.push]
theorem freeze_facts {w:World} {b n:Nat} {cs:Array Value} {ty:TypeId} {fr:Nat×Nat} (hw:w.heap[b]? =some (.cells cs ty fr)):(w.freeze ⟨b,0,none⟩ n).heap.size=w.heap.size∧(∀ b',b'≠b→(w.freeze ⟨b,0,none⟩ n).heap[b']? =w.heap[b']?)∧(∀ B,B≤b→Below B w (w.freeze ⟨b,0,none⟩ n))∧∃ fr',(w.freeze ⟨b,0,none⟩ n).heap[b]? =some (.cells cs ty fr'):=by
 unfold World.freeze
 by_cases hn:n=0
 ·rw [if_pos hn]
  exact ⟨rfl,fun _ _=>rfl,fun B _=>Below.refl _ _,fr,hw⟩
 ·rw [if_neg hn]
  have hother:∀ b',b'≠b→(w.heap.modify b fun
   | .cells c elem (lo,hi)=> .cells c elem (if lo==hi then (0,0+n) else (min lo 0,max hi (0+n)))
   | o=>o)[b']? =w.heap[b']? :=by
   intro b' hb'
   rw [Array.getElem?_modify,if_neg (fun e=>hb' e.symm)]
  refine ⟨Array.size_modify,hother,fun B hB=> ⟨rfl,rfl,rfl,by show w.heap.size≤(w.heap.modify _ _).size;rw [Array.size_modify];exact Nat.le_refl _,fun k hk=>hother k (by omega)⟩, ?_⟩
  obtain ⟨fl,fh⟩:=fr
  refine ⟨if fl==fh then (0,0+n) else (min fl 0,max fh (0+n)), ?_⟩
  show (w.heap.modify b _)[b]? =_
  rw [Array.getElem?_modify,if_pos rfl,hw]
  rfl
theorem step_str {c:Call} (ho:o.op= .call c) (hc:c.callee= .builtin .unsafeString) (h:stepStr P lo T o c.args.toList c.argTypes.toList H k=some r):StepOk P ro T o H (match c.args.toList with | p :: _=> .some false (tid true (evA T p)) | _=> .all) lo k r:=by
 have nd:∀ c,o.op≠ .defer c:=fun c h=>by rw [ho] at h;cases h
 unfold stepStr at h
 split at h
 ·rename_i p n tp ti hargs hts
  rw [hargs]
  simp only
  split at h
  ·rename_i i off hp
   split at h
   ·rename_i kn z hn
    unfold strOver at h
    simp only [Bool.cond_eq_ite] at h
    split at h
    ·rename_i e zs ty hu hHi
     split at h
     ·rename_i hok
      simp only [Bool.and_eq_true,beq_iff_eq,decide_eq_true_eq] at hok
      obtain ⟨⟨⟨⟨⟨⟨⟨rfl,h2⟩,rfl⟩,h4⟩,h5⟩,h6⟩,h7⟩,h8⟩:=hok
      have hlt:=(List.getElem?_eq_some_iff.1 hHi).1
      rw [hp]
      refine ⟨_,_,h,fun hl m hm=>List.getElem?_set_ne (by omega),fun B0 w0=> ⟨by simp,fun m hm hml=> ?_,fun h hh ro D α a w K Q hO hnew hT hK=> ?_⟩⟩
      ·rw [List.getElem?_set_ne]
       rintro rfl
       exact hml (by simp [tid])
      ·have hpm:p ∈ c.args:=Array.mem_toList_iff.1 (by rw [hargs];simp)
       have hnm:n ∈ c.args:=Array.mem_toList_iff.1 (by rw [hargs];simp)
       have r1:=hT p (by rw [ho];simp only [Op.operands,Call.operands,Array.mem_append];exact .inr hpm)
       have r2:=hT n (by rw [ho];simp only [Op.operands,Call.operands,Array.mem_append];exact .inr hnm)
       rw [hp] at r1
       rw [hn] at r2
       obtain ⟨hD,r1⟩:=r1
       have r2':a.eval n= .int kn z:=r2
       have hhi:h i=some (.row (.ints .u8 zs) e .live):=(hh i ⟨true,by simp [tid]⟩ hlt).trans hHi
       obtain ⟨cs,fr,e1,e2,e3,e4,e5⟩:=blk_row hO hD hhi rfl
       have e4':zs.length≤(α i).2:=e4
       have eN:Nxt h H (H.set i (.row (.ints .u8 zs) e .froz)) (tid true (.ptr i 0))=upd h i (some (.row (.ints .u8 zs) e .froz)):=by
        funext m
        unfold Nxt upd
        by_cases hm:m=i
        ·subst hm
         rw [if_pos (.inl (by simp [tid])),if_pos rfl,List.getElem?_set_self hlt]
        ·rw [if_neg,if_neg hm]
         rintro (h5 | ⟨h5,h6⟩)
         ·simp [tid] at h5;exact hm h5
         ·simp at h6;omega
       obtain ⟨f1,f2,f3,f4⟩:=freeze_facts (n:=z.toNat) e1
       obtain ⟨hO2,hg2⟩:=ok_frz hO hD hhi f1 f2 f3 (fun cs' fr' hcs=>by rw [e1] at hcs;cases hcs;exact f4)
       refine wp_val (w':=w.freeze ⟨(α i).1,0,none⟩ z.toNat) (x:= .string (ofBytes (zs.take z.toNat))) nd ?_ (hK D α _ _ (by rw [eN];exact hO2) (fun i hi=> .inl hi) (by rw [eN];exact hg2) rfl)
       obtain ⟨cal,as,ts⟩:=c
       simp only at hc hargs hts
       subst hc
       have has:as= #[p,n]:=by apply Array.toList_inj.1;rw [hargs]
       have hts':ts= #[tp,ti]:=by apply Array.toList_inj.1;rw [hts]
       subst has hts'
       have hm:Array.map a.eval #[p,n]= #[a.eval p,a.eval n]:=by simp
       have hcnt:z.toNat≤cs.size:=by omega
       have hlies:=Lib.liesAt_bytes (P:=P) h2 cs.size z.toNat hcnt
       have hlb:=run_bytes (P:=P) (w:=w) (zs.take z.toNat) ⟨(α i).1,0,none⟩ .empty (fun z' hz'=>List.all_eq_true.1 h7 z' (List.mem_of_mem_take hz')) (fun j z' hz'=>by
        rw [List.getElem?_take] at hz'
        split at hz'
        ·rw [addr_add,cell_at e1]
         obtain ⟨y,g1,g2⟩:=row_get e5 (v:= .val (.int .u8 z')) (o:=j) (by show (zs.map _)[_]? =_;rw [List.getElem?_map,hz'];rfl)
         rw [Nat.zero_add,g1]
         exact congrArg some g2
        ·cases hz')
       rw [List.length_take,Nat.min_eq_left h6] at hlb
       have hz0:¬ z < 0:=by omega
       have hzm:¬ z > IntKind.i64.max:=by have:IntKind.i64.max=9223372036854775807:=rfl;omega
       have hzn:z≠0:=by omega
       unfold execOp
       rw [ho]
       have hshape:w.shape? (α i).1=some (e,cs.size):=by simp [World.shape?,e1]
       have hus:=us_run (P:=P) (w:=w) (tp:=tp) (ti:=ti) (ty:=o.type) (kn:=kn) hu hz0 h5 hzn hshape h2 hlies hlb
       have hsb:(⟨ByteArray.empty.data ++ (List.map (fun z=>UInt8.ofNat z.toNat) (List.take z.toNat zs)).toArray⟩:ByteArray)=ofBytes (zs.take z.toNat):=by
        apply ByteArray.ext
        simp [ofBytes]
       rw [hsb] at hus
       simp only [resolve,Sem.run_bind,Sem.run_pure,Result.andThen,invoke,builtin,hm,r1,r2',hus]
     ·cases h
    ·cases h
   ·cases h
  ·rename_i v hp
   have:=step_plain (ro:=ro) (lo:=lo) nd h
   rw [hp]
   exact this
  ·cases h
 ·cases h
theorem esc_run {g:FuncId} (h:escFn P g=true) (x:Value) (w:World):(callFunc g #[x]).run P w= .ok (.value x) w:=by
 unfold escFn at h
 split at h
 ·rename_i fn hf
  simp only [Bool.and_eq_true,beq_iff_eq,Bool.or_eq_true] at h
  obtain ⟨⟨hb,hn⟩,ho⟩:=h
  have h1:Extern.findNext fn=none:=by
   unfold Extern.findNext
   have e1 : Extern.allNextRows.lookup "internal/abi.NoEscape" = none := by kernel_rfl
   have e2 : Extern.allNextRows.lookup "" = none := by kernel_rfl
   simp only [hn]
   rcases ho with ho | ho <;> simp only [ho,e1,e2] <;> rfl
  have h2:Extern.find fn=some Extern.AbiNoEscape.same:=by
   unfold Extern.find
   have e2 : Extern.allGenericRows.lookup "internal/abi.NoEscape" = none := by kernel_rfl
   have e3 : Extern.allTypedRows.lookup "internal/abi.NoEscape" = none := by kernel_rfl
   have e4 : Extern.allRows.lookup "internal/abi.NoEscape" = some Extern.AbiNoEscape.same := by kernel_rfl
   simp only [hn,e2,e3,e4]
   rfl
  rw [run_callFunc_extern hf (by rw [hn];decide) hb h1 h2]
  rfl
 ·cases h
theorem step_esc {c:Call} {f:Operand} {v:AV} (ho:o.op= .call c) (hc:c.callee= .value f) (he:escA P (evA T f) (c.args.toList.map (evA T))=some v) (h:k v H=some r) (rd:Bool) {l:List (Nat×Bool)} (hl:∀ m,(m,true) ∉ l):StepOk P ro T o H (.some rd l) lo k r:=by
 have nd:∀ c,o.op≠ .defer c:=fun c h=>by rw [ho] at h;cases h
 unfold escA at he
 simp only [Bool.cond_eq_ite] at he
 split at he
 ·rename_i g a b v' hf hargs
  split at he
  ·rename_i hok
   cases he
   simp only [Bool.and_eq_true,beq_iff_eq,Array.size_eq_zero_iff] at hok
   obtain ⟨⟨ha,hb⟩,hg⟩:=hok
   subst ha hb
   refine step_read h hl nd (fun B0 w0 hf' D α act w hh hO hT=> ?_)
   obtain ⟨cal,as,ts⟩:=c
   simp only at hc hargs
   subst hc
   obtain ⟨p,hp⟩:∃ p,as= #[p]:=by
    have:as.toList.length=1:=by have:=congrArg List.length hargs;simpa using this
    obtain ⟨p,hp⟩:=List.length_eq_one_iff.1 this
    exact ⟨p,Array.toList_inj.1 hp⟩
   subst hp
   simp only [List.map_cons,List.map_nil,List.cons.injEq,and_true] at hargs
   have r1:=hT f (by rw [ho];simp [Op.operands,Call.operands])
   have r2:=hT p (by rw [ho];simp [Op.operands,Call.operands])
   rw [hf] at r1
   rw [hargs] at r2
   have r1':act.eval f= .func (.func g) #[] #[]:=r1
   refine ⟨act.eval p, ?_,r2⟩
   have hm:Array.map act.eval #[p]= #[act.eval p]:=by simp
   unfold execOp
   rw [ho]
   simp only [resolve,r1',Deferred.ofValue,hm,Sem.run_bind,Sem.run_pure,Result.andThen,invoke,Array.empty_append,Array.append_empty,esc_run hg]
  ·cases he
 ·cases he
end
end Go.V
namespace Go.V
open Go Go.RowKit
def NoA:Nat→Nat×Nat:=fun _=>(0,0)
def Meets (P:Program) (C:FuncId→List AV→Option (Bool×AV)):Prop:=
 ∀ g args r,C g args=some (true,r)→∀ (B:Nat→Prop) (w:World) (xs:Array Value),(∀ b,B b→b < w.heap.size∧∀ ds,w.heap[b]?≠some (.deferred ds))→RelL P NoA B w args NoD xs.toList→
  Calls P g xs w fun e w'=>∃ y,e= .returned y∧Below w.heap.size w w'∧r.Rel P NoA B w' NoD y
def After (P:Program) (B0:Nat→Prop) (w0:World) (D:Nat→Prop) (α:Nat→Nat×Nat) (h:Hf) (w:World) (n n':Nat) (v:AV) (h':Hf):Ending→World→Prop:=fun e w'=>
 ∃ y D' α',e= .returned y∧Ok P B0 w0 D' α' h' w'∧(∀ i,D' i→D i∨(n≤i∧i < n'))∧Goes D D' α α' (OwnD D α h) (OwnD D' α' h') w w'∧v.Rel P α' (Own B0 D' α' h') w' D' y
def CallDoes (P:Program) (g:FuncId) (args:List AV) (H:Hp) (v:AV) (H':Hp):Prop:=
 ∀ (B0:Nat→Prop) (w0:World) (D:Nat→Prop) (α:Nat→Nat×Nat) (w:World) (xs:Array Value),Ok P B0 w0 D α (H[·]?) w→RelL P α (Own B0 D α (H[·]?)) w args D xs.toList→
  CallsIn Fence.wide 0 P g xs w (After P B0 w0 D α (H[·]?) w H.length H'.length v (H'[·]?))
def CallAny (P:Program) (g:FuncId) (args:List AV) (v:AV):Prop:=
 ∀ (B0:Nat→Prop) (w0:World) (D:Nat→Prop) (α:Nat→Nat×Nat) (h:Hf) (w:World) (xs:Array Value),Ok P B0 w0 D α h w→RelL P α (Own B0 D α h) w args D xs.toList→
  CallsIn Fence.wide 0 P g xs w (After P B0 w0 D α h w 0 0 v h)
def CfOk (P:Program) {R:Type} (cf:Nat→FuncId→List AV→Hp→Kn R→Option R):Prop:=
 ∀ lo g args H k r,okFn P g=true→cf lo g args H k=some r→∃ v H',k v H'=some r∧H.length≤H'.length∧(lo≤H.length→∀ m,m < lo→H'[m]? =H[m]?)∧CallDoes P g args H v H'
def YieldDoes (P:Program) (i:Nat) (args:List AV) (H:Hp) (v:AV) (H':Hp):Prop:=
 ∀ (B0:Nat→Prop) (w0:World) (D:Nat→Prop) (α:Nat→Nat×Nat) (w:World) (xs:Array Value),Ok P B0 w0 D α (H[·]?) w→D i→RelL P α (Own B0 D α (H[·]?)) w args D xs.toList→
  YieldAt Fence.wide 0 P (α i).1 xs w (After P B0 w0 D α (H[·]?) w H.length H'.length v (H'[·]?))
def YfOk (P:Program) {R:Type} (yf:Nat→Nat→List AV→Hp→Kn R→Option R):Prop:=
 ∀ lo i args H k r,yf lo i args H k=some r→∃ v H',k v H'=some r∧H.length≤H'.length∧(lo≤H.length→∀ m,m < lo→H'[m]? =H[m]?)∧YieldDoes P i args H v H'
section
variable {R : Type} {P : Program}
theorem noD_any {v:AV} {α α':Nat→Nat×Nat} {B:Nat→Prop} {w:World} {x:Value} (h:v.Rel P α B w NoD x):v.Rel P α' B w NoD x:=AV.Rel.mono v x ⟨fun _ h=>h,fun _ h=>h.elim,fun b cs ty fr h1 h2=> ⟨h2,h1⟩⟩ h
theorem noD_to {v:AV} {α α':Nat→Nat×Nat} {B:Nat→Prop} {w:World} {D:Nat→Prop} {x:Value} (h:v.Rel P α B w NoD x):v.Rel P α' B w D x:=rel_noD (noD_any h)
theorem closed_rel {v:AV} (hv:owns v=false) {D:Nat→Prop} {α α':Nat→Nat×Nat} {B:Nat→Prop} {w:World} {x:Value} (h:v.Rel P α B w D x):v.Rel P α' B w NoD x:=by
 cases v with
 | val v=>exact h
 | lst fl t n f=>exact noD_any (α:=α) (v:= .lst fl t n f) h
 | eptr t n f j off=>exact noD_any (α:=α) (v:= .eptr t n f j off) h
 | agg cs=>
  obtain ⟨ys,rfl,hr⟩:=h
  refine ⟨ys,rfl, ?_⟩
  simp only [owns,Bool.not_eq_false'] at hv
  generalize ys.toList=l at hr
  induction cs generalizing l with
  | nil=>exact hr
  | cons c cs ih=>
   obtain ⟨y,zs,rfl,h1,h2⟩:=hr
   rw [List.all_cons,Bool.and_eq_true] at hv
   refine ⟨y,zs,rfl, ?_,ih hv.2 _ h2⟩
   cases c with
   | val v=>exact h1
   | lst fl t n f=>exact noD_any (α:=α) (v:= .lst fl t n f) h1
   | _=>simp at hv
 | _=>simp [owns] at hv
theorem closed_relL:∀ {vs:List AV},vs.any owns=false→∀ {D:Nat→Prop} {α α':Nat→Nat×Nat} {B:Nat→Prop} {w:World} {ys:List Value},RelL P α B w vs D ys→RelL P α' B w vs NoD ys
 | [],_,D,α,α',B,w,ys,h=>h
 | v :: vs,hv,D,α,α',B,w,ys,h=>by
  obtain ⟨y,zs,rfl,h1,h2⟩:=h
  rw [List.any_cons,Bool.or_eq_false_iff] at hv
  exact ⟨y,zs,rfl,closed_rel hv.1 h1,closed_relL hv.2 h2⟩
theorem own_lt {B0:Nat→Prop} {w0:World} {D:Nat→Prop} {α:Nat→Nat×Nat} {h:Hf} {w:World} (hO:Ok P B0 w0 D α h w):∀ b,Own B0 D α h b→b < w.heap.size∧∀ ds,w.heap[b]?≠some (.deferred ds):=by
 rintro b (hb | hb)
 ·exact hO.old b hb
 ·refine ⟨?_,fun ds hd=>own_cells hO hd hb⟩
  obtain ⟨i,k,hi,_,_,rfl⟩:=hb
  exact (hO.fresh i hi).2
theorem call_told {C:FuncId→List AV→Option (Bool×AV)} (hC:Meets P C) {g:FuncId} {args:List AV} {v:AV} (h:C g args=some (true,v)) (hn:args.any owns=false):CallAny P g args v:=by
 intro B0 w0 D α hf w xs hO hargs
 refine callsIn_wide.2 (Calls.mono (hC g args v h (Own B0 D α hf) w xs (own_lt hO) (closed_relL hn hargs)) ?_)
 rintro e w' ⟨y,rfl,hb,hr⟩
 obtain ⟨hO',hg⟩:=ok_grow hO hb
 exact ⟨y,D,α,rfl,hO',fun i hi=> .inl hi,hg,noD_to hr⟩
theorem CallAny.does {g:FuncId} {args:List AV} {v:AV} (h:CallAny P g args v) (H:Hp):CallDoes P g args H v H:=by
 intro B0 w0 D α w xs hO hargs
 refine (h B0 w0 D α _ w xs hO hargs).mono ?_
 rintro e w' ⟨y,D',α',h1,h2,h3,h4,h5⟩
 exact ⟨y,D',α',h1,h2,fun i hi=>(h3 i hi).elim .inl (fun h=>by omega),h4,h5⟩
theorem eachA_spec {f:AV→(AV→Option R)→Option R} {Q:AV→AV→Prop} (hf:∀ v k r,f v k=some r→∃ v',k v'=some r∧Q v v'):∀ (l:List AV) (k:List AV→Option R) (r:R),eachA f l k=some r→∃ l':List AV,k l'=some r∧l'.length=l.length∧∀ (i:Nat) (v v':AV),l[i]? =some v→l'[i]? =some v'→Q v v'
 | [],k,r,h=> ⟨[],h,rfl,fun i v v' h=>by simp at h⟩
 | v :: l,k,r,h=>by
  obtain ⟨v',h1,h2⟩:=hf v _ r h
  obtain ⟨l',h3,h4,h5⟩:=eachA_spec hf l _ r h1
  refine ⟨v' :: l',h3,by simp [h4],fun i u u' hu hu'=> ?_⟩
  cases i with
  | zero=>simp only [List.getElem?_cons_zero,Option.some.injEq] at hu hu';subst hu hu';exact h2
  | succ i=>rw [List.getElem?_cons_succ] at hu hu';exact h5 i u u' hu hu'
def Frozen (H:Hp) (ids:List Nat) (h1:Hf):Prop:=∀ i c ty st,H[i]? =some (.row c ty st)→(st= .live∧i ∈ ids∨st= .froz)→h1 i=some (.row c ty .froz)
theorem contF_rel {D:Nat→Prop} {α:Nat→Nat×Nat} {B:Nat→Prop} {w:World} {c:Cont} {l':List AV} {off sz len:Nat} {cs:Array Value} (hr:RelL P α B w c.avs D (cs.toList.take c.len)) (hle:off+len*sz≤c.len) (hl:∀ l,c= .cells l→l'.length=l.length∧∀ (i:Nat) (v v':AV),l[i]? =some v→l'[i]? =some v'→∀ x,v.Rel P α B w D x→v'.Rel P α B w NoD x):
  ∀ j q,j < len→q < sz→∃ y,cs[off+j*sz+q]? =some y∧(contF c l' off sz j q).Rel P α B w NoD y:=by
 intro j q hj hq
 have hidx:off+j*sz+q < c.len:=by
  have:(j+1)*sz≤len*sz:=Nat.mul_le_mul_right _ hj
  rw [Nat.succ_mul] at this
  omega
 cases c with
 | cells l=>
  obtain ⟨h1,h2⟩:=hl l rfl
  have hi:off+j*sz+q < l.length:=hidx
  have hi':off+j*sz+q < l'.length:=by omega
  obtain ⟨y,h3,h4⟩:=row_get hr (v:=l[off+j*sz+q]) (List.getElem?_eq_getElem hi)
  refine ⟨y,h3, ?_⟩
  show (l'.getD (off+j*sz+q) .any).Rel P α B w NoD y
  rw [List.getD_eq_getElem?_getD,List.getElem?_eq_getElem hi']
  exact h2 _ _ _ (List.getElem?_eq_getElem hi) (List.getElem?_eq_getElem hi') y h4
 | ints kd zs=>
  have hi:off+j*sz+q < zs.length:=hidx
  obtain ⟨y,h3,h4⟩:=row_get hr (v:= .val (.int kd zs[off+j*sz+q])) (by show (zs.map _)[_]? =_;rw [List.getElem?_map,List.getElem?_eq_getElem hi];rfl)
  refine ⟨y,h3, ?_⟩
  unfold contF
  simp only
  cases hsz:(sz==1) with
  | true=>
   rw [beq_iff_eq] at hsz
   subst hsz
   have hq0:q=0:=by omega
   subst hq0
   simp only [cond]
   have:(zs.drop off).getD j 0=zs[off+j*1+0]:=by
    rw [List.getD_eq_getElem?_getD,List.getElem?_drop,show off+j=off+j*1+0 by omega,List.getElem?_eq_getElem hi];rfl
   rw [this]
   exact h4
  | false=>
   simp only [cond]
   rw [List.getD_eq_getElem?_getD,List.getElem?_eq_getElem hi]
   exact h4
 | vals vs=>
  have hi:off+j*sz+q < vs.length:=hidx
  obtain ⟨y,h3,h4⟩:=row_get hr (v:= .val vs[off+j*sz+q]) (by show (vs.map _)[_]? =_;rw [List.getElem?_map,List.getElem?_eq_getElem hi];rfl)
  refine ⟨y,h3, ?_⟩
  show (AV.val (vs.getD (off+j*sz+q) undef)).Rel P α B w NoD y
  rw [List.getD_eq_getElem?_getD,List.getElem?_eq_getElem hi]
  exact h4
theorem relL_of_each {D:Nat→Prop} {α:Nat→Nat×Nat} {B:Nat→Prop} {w:World} {l l':List AV} (hl:l'.length=l.length) (h:∀ (i:Nat) (v v':AV),l[i]? =some v→l'[i]? =some v'→∀ x,v.Rel P α B w D x→v'.Rel P α B w NoD x) {ys:List Value} (hr:RelL P α B w l D ys):RelL P α B w l' NoD ys:=by
 refine RelL.of_get (by rw [RelL.len hr,hl]) (fun i v' hv'=> ?_)
 have hi:i < l.length:=by rw [← hl];exact (List.getElem?_eq_some_iff.1 hv').1
 obtain ⟨y,h1,h2⟩:=RelL.get hr (List.getElem?_eq_getElem hi)
 exact ⟨y,h1,h _ _ _ (List.getElem?_eq_getElem hi) hv' y h2⟩
theorem freeze_sound {H : Hp} : ∀ (d : Nat) (v : AV) (k : AV → Option R) (r : R), freezeA P H d v k = some r → ∃ v', k v' = some r ∧
    ∀ {B0 : Nat → Prop} {w0 : World} {D : Nat → Prop} {α : Nat → Nat × Nat} {h1 : Hf} {w : World}, Ok P B0 w0 D α h1 w → Frozen H (frozIds H d [v]) h1 → ∀ x, v.Rel P α (Own B0 D α h1) w D x → v'.Rel P α (Own B0 D α h1) w NoD x
  | 0, v, k, r, h => by simp [freezeA] at h
  | d + 1, v, k, r, h => by
    have sub : ∀ (l : List AV) (K : List AV → Option R) (r : R), eachA (freezeA P H d) l K = some r → ∃ l' : List AV, K l' = some r ∧ l'.length = l.length ∧
        ∀ {B0 : Nat → Prop} {w0 : World} {D : Nat → Prop} {α : Nat → Nat × Nat} {h1 : Hf} {w : World}, Ok P B0 w0 D α h1 w → Frozen H (frozIds H d l) h1 → ∀ (i : Nat) (v v' : AV), l[i]? = some v → l'[i]? = some v' → ∀ x, v.Rel P α (Own B0 D α h1) w D x → v'.Rel P α (Own B0 D α h1) w NoD x := by
      intro l K r hl
      obtain ⟨l', h1, h2, h3⟩ := eachA_spec (Q := fun v v' => ∀ {B0 : Nat → Prop} {w0 : World} {D : Nat → Prop} {α : Nat → Nat × Nat} {h1 : Hf} {w : World}, Ok P B0 w0 D α h1 w → Frozen H (frozIds H d [v]) h1 → ∀ x, v.Rel P α (Own B0 D α h1) w D x → v'.Rel P α (Own B0 D α h1) w NoD x) (fun v k r h => freeze_sound d v k r h) l K r hl
      refine ⟨l', h1, h2, fun {B0 w0 D α h1 w} hO hF i v v' hv hv' x hx => h3 i v v' hv hv' hO (fun j c ty st hj hst => hF j c ty st hj (hst.elim (fun e => .inl ⟨e.1, ?_⟩) .inr)) x hx⟩
      have hmem := List.mem_of_getElem? hv
      cases d with
      | zero => exact absurd e.2 (by simp [frozIds])
      | succ d =>
        simp only [frozIds, List.flatMap_cons, List.flatMap_nil, List.append_nil] at e ⊢
        exact List.mem_flatMap.2 ⟨v, hmem, e.2⟩
    unfold freezeA at h
    simp only [Bool.cond_eq_ite] at h
    split at h
    · exact ⟨_, h, fun _ _ x hx => hx⟩
    · rename_i fl t i off len
      split at h
      · rename_i c ty st hHi
        split at h
        · cases h
        · rename_i hst
          split at h
          · rename_i hle
            have hle := of_decide_eq_true hle
            have key : ∀ (l' : List AV), k (.lst fl t len (contF c l' off (P.cellsOf t))) = some r → (∀ {B0 : Nat → Prop} {w0 : World} {D : Nat → Prop} {α : Nat → Nat × Nat} {h1 : Hf} {w : World}, Ok P B0 w0 D α h1 w → Frozen H (frozIds H d c.subs) h1 → ∀ l, c = .cells l → l'.length = l.length ∧ ∀ (i : Nat) (v v' : AV), l[i]? = some v → l'[i]? = some v' → ∀ x, v.Rel P α (Own B0 D α h1) w D x → v'.Rel P α (Own B0 D α h1) w NoD x) → ∃ v', k v' = some r ∧
                ∀ {B0 : Nat → Prop} {w0 : World} {D : Nat → Prop} {α : Nat → Nat × Nat} {h1 : Hf} {w : World}, Ok P B0 w0 D α h1 w → Frozen H (frozIds H (d + 1) [.sl fl t i off len]) h1 → ∀ x, (AV.sl fl t i off len).Rel P α (Own B0 D α h1) w D x → v'.Rel P α (Own B0 D α h1) w NoD x := by
              intro l' hk hl
              refine ⟨_, hk, fun {B0 w0 D α h1 w} hO hF x hx => ?_⟩
              have hids : ∀ j, (j = i ∧ st = .live ∨ j ∈ frozIds H d c.subs) → j ∈ frozIds H (d + 1) [.sl fl t i off len] := by
                intro j hj
                simp only [frozIds, List.flatMap_cons, List.flatMap_nil, List.append_nil, hHi]
                cases st with
                | live => rcases hj with ⟨rfl, _⟩ | hj
                          · exact List.mem_cons_self
                          · exact List.mem_cons_of_mem _ hj
                | froz => rcases hj with ⟨_, hj⟩ | hj
                          · cases hj
                          · exact hj
                | dead => simp at hst
              have hfz : h1 i = some (.row c ty .froz) := hF i c ty st hHi (by
                cases st with
                | live => exact .inl ⟨rfl, hids i (.inl ⟨rfl, rfl⟩)⟩
                | froz => exact .inr rfl
                | dead => simp at hst)
              obtain ⟨hi, cap, o', rfl, hcap, hfl, hof⟩ := hx
              obtain ⟨cs, fr, e1, e2, e3, e4, e5⟩ := blk_row hO hi hfz rfl
              refine ⟨_, cap, rfl, hcap, hfl, ?_⟩
              by_cases hz : len = 0
              · exact .inl hz
              · right
                rcases hof with hof | ⟨rfl, hof⟩
                · omega
                · refine ⟨_, o', cs, ty, fr, rfl, hO.frz i _ hi hfz rfl, e1, ?_⟩
                  exact contF_rel e5 hle (fun l hl' => hl hO (fun j c' ty' st' hj hst' => hF j c' ty' st' hj (hst'.elim (fun e => .inl ⟨e.1, hids j (.inr e.2)⟩) .inr)) l hl')
            cases c with
            | cells l =>
              obtain ⟨l', h1, h2, h3⟩ := sub l _ r h
              exact key l' h1 (fun {B0 w0 D α h1' w} hO hF l2 hl2 => by cases hl2; exact ⟨h2, h3 hO hF⟩)
            | ints kd zs => exact key [] h (fun {B0 w0 D α h1 w} hO hF l2 hl2 => by cases hl2)
            | vals vs => exact key [] h (fun {B0 w0 D α h1 w} hO hF l2 hl2 => by cases hl2)
          · cases h
      · cases h
    · exact ⟨_, h, fun _ _ x hx => noD_any hx⟩
    · exact ⟨_, h, fun _ _ x hx => noD_any hx⟩
    · rename_i cs
      obtain ⟨l', h1, h2, h3⟩ := sub cs _ r h
      refine ⟨_, h1, fun {B0 w0 D α h1' w} hO hF x hx => ?_⟩
      obtain ⟨ys, rfl, hr⟩ := hx
      exact ⟨ys, rfl, relL_of_each h2 (h3 hO (fun j c ty st hj hst => hF j c ty st hj (hst.elim (fun e => .inl ⟨e.1, by simpa [frozIds] using e.2⟩) .inr))) hr⟩
    · rename_i cs
      obtain ⟨l', h1, h2, h3⟩ := sub cs _ r h
      refine ⟨_, h1, fun {B0 w0 D α h1' w} hO hF x hx => ?_⟩
      obtain ⟨ys, rfl, hr⟩ := hx
      exact ⟨ys, rfl, relL_of_each h2 (h3 hO (fun j c ty st hj hst => hF j c ty st hj (hst.elim (fun e => .inl ⟨e.1, by simpa [frozIds] using e.2⟩) .inr))) hr⟩
    · rename_i fn a b
      obtain ⟨a', h1, h2, h3⟩ := sub a _ r h
      obtain ⟨b', h4, h5, h6⟩ := sub b _ r h1
      refine ⟨_, h4, fun {B0 w0 D α h1' w} hO hF x hx => ?_⟩
      obtain ⟨xs, ys, rfl, hr1, hr2⟩ := hx
      exact ⟨xs, ys, rfl, relL_of_each h2 (h3 hO (fun j c ty st hj hst => hF j c ty st hj (hst.elim (fun e => .inl ⟨e.1, by simp [frozIds]; exact .inl e.2⟩) .inr))) hr1,
        relL_of_each h5 (h6 hO (fun j c ty st hj hst => hF j c ty st hj (hst.elim (fun e => .inl ⟨e.1, by simp [frozIds]; exact .inr e.2⟩) .inr))) hr2⟩
    · cases h
end
end Go.V
namespace Go.V
open Go Go.RowKit
section
variable {R : Type} {P : Program}
theorem frozAt_len (H:Hp) (i:Nat):(frozAt H i).length=H.length:=by
 unfold frozAt
 split
 ·simp
 ·rfl
theorem frozB_len:∀ (ids:List Nat) (H:Hp),(frozB ids H).length=H.length
 | [],H=>rfl
 | i :: ids,H=>by unfold frozB;rw [List.foldl_cons];exact (frozB_len ids _).trans (frozAt_len H i)
theorem frozAt_get (H:Hp) (i j:Nat):(frozAt H i)[j]? =(if j=i then (match H[i]? with | some (.row c ty .live)=>some (.row c ty .froz) | x=>x) else H[j]?):=by
 unfold frozAt
 split
 ·rename_i c ty hi
  by_cases hj:j=i
  ·subst hj;rw [if_pos rfl,List.getElem?_set_self (List.getElem?_eq_some_iff.1 hi).1,hi]
  ·rw [if_neg hj,List.getElem?_set_ne (Ne.symm hj)]
 ·rename_i hn
  by_cases hj:j=i
  ·subst hj
   rw [if_pos rfl]
   split
   ·rename_i c ty hc;exact absurd hc (hn c ty)
   ·rfl
  ·rw [if_neg hj]
theorem ok_froz:∀ (ids:List Nat) {H:Hp} {B0:Nat→Prop} {w0:World} {D:Nat→Prop} {α:Nat→Nat×Nat} {w:World},Ok P B0 w0 D α (H[·]?) w→Ok P B0 w0 D α ((frozB ids H)[·]?) w∧Goes D D α α (OwnD D α (H[·]?)) (OwnD D α ((frozB ids H)[·]?)) w w
 | [],H,B0,w0,D,α,w,hO=> ⟨hO,Goes.refl _ _ _ _⟩
 | i :: ids,H,B0,w0,D,α,w,hO=>by
  have key:Ok P B0 w0 D α ((frozAt H i)[·]?) w∧Goes D D α α (OwnD D α (H[·]?)) (OwnD D α ((frozAt H i)[·]?)) w w:=by
   cases hi:H[i]? with
   | none=>
    have:frozAt H i=H:=by unfold frozAt;rw [hi]
    rw [this];exact ⟨hO,Goes.refl _ _ _ _⟩
   | some b=>
    by_cases hb:∃ c ty,b= .row c ty .live
    ·obtain ⟨c,ty,rfl⟩:=hb
     have e:((frozAt H i)[·]?)=upd (H[·]?) i (some (.row c ty .froz)):=by
      funext j
      rw [frozAt_get,hi]
      rfl
     rw [e]
     by_cases hD:D i
     ·exact ok_stat hO hD hi (.inr ⟨rfl,rfl⟩)
     ·have hown:∀ b,OwnD D α (upd (H[·]?) i (some (.row c ty .froz))) b↔OwnD D α (H[·]?) b:=by
       intro b
       constructor
       ·rintro ⟨j,k,hj,h1,h2,h3⟩
        rw [upd_ne _ _ (fun e:j=i=>hD (e ▸ hj))] at h1
        exact ⟨j,k,hj,h1,h2,h3⟩
       ·rintro ⟨j,k,hj,h1,h2,h3⟩
        exact ⟨j,k,hj,by rw [upd_ne _ _ (fun e:j=i=>hD (e ▸ hj))];exact h1,h2,h3⟩
      have hne:∀ {j},D j→upd (H[·]?) i (some (.row c ty .froz)) j=H[j]? :=fun {j} hj=>upd_ne _ _ (fun e:j=i=>hD (e ▸ hj))
      have hg:Goes D D α α (OwnD D α (H[·]?)) (OwnD D α (upd (H[·]?) i (some (.row c ty .froz)))) w w:= ⟨fun _ h=>h,fun _ _=>rfl,fun b o h1 h2=> ⟨fun h=>h2 ((hown b).1 h),h1⟩⟩
      refine ⟨⟨fun j hj=>by rw [hne hj];exact hO.lt j hj,hO.below,hO.old,fun b hB hc=>hO.sep b hB ((hown b).1 hc),hO.fresh,fun a b ka kb ha hb h1 h2=> ?_,fun j k hj h1 h2 hc=> ?_,fun j k hj h1=> ?_⟩,hg⟩
      ·rw [hne ha] at h1;rw [hne hb] at h2;exact hO.inj a b ka kb ha hb h1 h2
      ·rw [hne hj] at h1;exact hO.frz j k hj h1 h2 (hc.elim .inl (fun h=> .inr ((hown _).1 h)))
      ·rw [hne hj] at h1;exact BlkRel.mono (hg.keeps B0) (fun o ho _=>ho) (hO.blk j k hj h1)
    ·have:frozAt H i=H:=by
      unfold frozAt
      rw [hi]
      split
      ·rename_i c ty h;cases h;exact absurd ⟨_,_,rfl⟩ hb
      ·rfl
     rw [this];exact ⟨hO,Goes.refl _ _ _ _⟩
  have h2:=ok_froz ids (H:=frozAt H i) key.1
  unfold frozB
  rw [List.foldl_cons]
  exact ⟨h2.1,key.2.trans h2.2⟩
theorem froz_frozen:∀ (ids:List Nat) (H:Hp) (i:Nat) (c:Cont) (ty:TypeId),(H[i]? =some (.row c ty .froz)∨H[i]? =some (.row c ty .live)∧i ∈ ids)→(frozB ids H)[i]? =some (.row c ty .froz)
 | [],H,i,c,ty,h=>by
  rcases h with h | ⟨_,h⟩
  ·exact h
  ·cases h
 | j :: ids,H,i,c,ty,h=>by
  unfold frozB
  rw [List.foldl_cons]
  apply froz_frozen ids
  rw [frozAt_get]
  by_cases hij:i=j
  ·subst hij
   left
   rw [if_pos rfl]
   rcases h with h | ⟨h,_⟩ <;> rw [h]
  ·rw [if_neg hij]
   rcases h with h | ⟨h,h2⟩
   ·exact .inl h
   ·rcases List.mem_cons.1 h2 with h2 | h2
    ·exact absurd h2 hij
    ·exact .inr ⟨h,h2⟩
theorem frozB_other:∀ (ids:List Nat) (H:Hp) (m:Nat),m ∉ ids→(frozB ids H)[m]? =H[m]?
 | [],H,m,_=>rfl
 | j :: ids,H,m,h=>by
  unfold frozB
  rw [List.foldl_cons]
  have h1:m≠j:=fun e=>h (e ▸ List.mem_cons_self)
  have:=frozB_other ids (frozAt H j) m (fun h2=>h (List.mem_cons_of_mem _ h2))
  unfold frozB at this
  rw [this,frozAt_get,if_neg h1]
theorem plain_any1 {v:AV} (h:plainR1 v=true) {α α':Nat→Nat×Nat} {B B':Nat→Prop} {w w':World} {D D':Nat→Prop} {x:Value} (hr:v.Rel P α B w D x):v.Rel P α' B' w' D' x:=by
 cases v with
 | val v=>exact hr
 | agg cs=>
  obtain ⟨ys,rfl,hr⟩:=hr
  refine ⟨ys,rfl, ?_⟩
  simp only [plainR1] at h
  generalize ys.toList=l at hr
  induction cs generalizing l with
  | nil=>exact hr
  | cons c cs ih=>
   obtain ⟨y,zs,rfl,h1,h2⟩:=hr
   rw [List.all_cons,Bool.and_eq_true] at h
   refine ⟨y,zs,rfl, ?_,ih h.2 _ h2⟩
   cases c with
   | val v=>exact h1
   | _=>simp [isVal] at h
 | _=>simp [plainR1] at h
theorem plain_any {v:AV} (h:plainR v=true) {α α':Nat→Nat×Nat} {B B':Nat→Prop} {w w':World} {D D':Nat→Prop} {x:Value} (hr:v.Rel P α B w D x):v.Rel P α' B' w' D' x:=by
 cases v with
 | val v=>exact hr
 | agg cs=>exact plain_any1 (v:= .agg cs) h hr
 | tup cs=>
  obtain ⟨ys,rfl,hr⟩:=hr
  refine ⟨ys,rfl, ?_⟩
  simp only [plainR] at h
  generalize ys.toList=l at hr
  induction cs generalizing l with
  | nil=>exact hr
  | cons c cs ih=>
   obtain ⟨y,zs,rfl,h1,h2⟩:=hr
   rw [List.all_cons,Bool.and_eq_true] at h
   exact ⟨y,zs,rfl,plain_any1 h.1 h1,ih h.2 _ h2⟩
 | _=>simp [plainR,plainR1] at h
structure CxOk (x:Cx R):Prop where
 C:Meets x.P x.E.C
 cf:CfOk x.P x.cf
 yf:YfOk x.P x.yf
theorem callStep_sound {x:Cx R} (hx:CxOk x) {g:FuncId} {args:List AV} {H:Hp} {k:Kn R} {r:R} (h:callStep x g args H k=some r):
  okFn x.P g=true∧∃ v H',k v H'=some r∧H.length≤H'.length∧(x.lo≤H.length→∀ m,m < x.lo→H'[m]? =H[m]?)∧CallDoes x.P g args H v H'∧(args.any owns=false→(x.E.C g args).isSome=true→H'=H∧CallAny x.P g args v):=by
 unfold callStep at h
 simp only [Bool.cond_eq_ite] at h
 split at h
 ·rename_i hok
  refine ⟨hok, ?_⟩
  have inline:x.cf x.lo g args H k=some r→∃ v H',k v H'=some r∧H.length≤H'.length∧(x.lo≤H.length→∀ m,m < x.lo→H'[m]? =H[m]?)∧CallDoes x.P g args H v H':=fun hc=>hx.cf x.lo g args H k r hok hc
  split at h
  ·rename_i hown
   have fin:(∃ v H',k v H'=some r∧H.length≤H'.length∧(x.lo≤H.length→∀ m,m < x.lo→H'[m]? =H[m]?)∧CallDoes x.P g args H v H')→∃ v H',k v H'=some r∧H.length≤H'.length∧(x.lo≤H.length→∀ m,m < x.lo→H'[m]? =H[m]?)∧CallDoes x.P g args H v H'∧(args.any owns=false→(x.E.C g args).isSome=true→H'=H∧CallAny x.P g args v):=by
    rintro ⟨v,H',h1,h2,h3,h4⟩
    exact ⟨v,H',h1,h2,h3,h4,fun h=>by rw [hown] at h;cases h⟩
   apply fin
   split at h
   ·obtain ⟨args',h1,h2,h3⟩:=eachA_spec (Q:=fun v v'=>∀ {B0:Nat→Prop} {w0:World} {D:Nat→Prop} {α:Nat→Nat×Nat} {h1:Hf} {w:World},Ok x.P B0 w0 D α h1 w→Frozen H (frozIds H 8 [v]) h1→∀ y,v.Rel x.P α (Own B0 D α h1) w D y→v'.Rel x.P α (Own B0 D α h1) w NoD y) (fun v k r h=>freeze_sound 8 v k r h) args _ r h
    unfold callFroz at h1
    simp only [Bool.cond_eq_ite] at h1
    split at h1
    ·rename_i rv hrv
     split at h1
     ·rename_i hb
      have told:∀ (B0:Nat→Prop) (w0:World) (D:Nat→Prop) (α:Nat→Nat×Nat) (w:World) (xs:Array Value),Ok x.P B0 w0 D α (H[·]?) w→RelL x.P α (Own B0 D α (H[·]?)) w args D xs.toList→
        CallsIn Fence.wide 0 x.P g xs w (fun e w'=>∃ y,e= .returned y∧Below w.heap.size w w'∧rv.2.Rel x.P NoA (Own B0 D α ((frozB (frozIds H 8 args) H)[·]?)) w' NoD y):=by
       intro B0 w0 D α w xs hO hargs
       obtain ⟨hO1,hg1⟩:=ok_froz (frozIds H 8 args) hO
       have hrel:=RelL.mono _ _ (hg1.keeps B0) hargs
       have hrel2:RelL x.P α (Own B0 D α ((frozB (frozIds H 8 args) H)[·]?)) w args' NoD xs.toList:=relL_of_each h2 (fun i v v' hv hv' y hy=>h3 i v v' hv hv' hO1 (fun j c ty st hj hst=>by
        apply froz_frozen
        rcases hst with ⟨rfl,hst⟩ | rfl
        ·refine .inr ⟨hj, ?_⟩
         simp only [frozIds,List.flatMap_cons,List.flatMap_nil,List.append_nil] at hst ⊢
         exact List.mem_flatMap.2 ⟨v,List.mem_of_getElem? hv,hst⟩
        ·exact .inl hj) y hy) hrel
       have hC:=hx.C g args' rv.2 (by rw [hrv];exact congrArg some (by rw [← hb])) (Own B0 D α ((frozB (frozIds H 8 args) H)[·]?)) w xs (own_lt hO1) (RelL.mono _ _ ⟨fun _ h=>h,fun _ h=>h.elim,fun b cs ty fr h1 h2=> ⟨h2,h1⟩⟩ hrel2)
       exact callsIn_wide.2 hC
      split at h1
      ·rename_i hpl
       refine ⟨_,H,h1,Nat.le_refl _,fun _ _ _=>rfl,fun B0 w0 D α w xs hO hargs=>(told B0 w0 D α w xs hO hargs).mono ?_⟩
       rintro e w' ⟨y,rfl,hbel,hr⟩
       obtain ⟨hO',hg'⟩:=ok_grow hO hbel
       exact ⟨y,D,α,rfl,hO',fun i hi=> .inl hi,hg',plain_any hpl hr⟩
      ·split at h1
       ·rename_i hall
        rw [List.all_eq_true] at hall
        refine ⟨_,_,h1,by rw [frozB_len];exact Nat.le_refl _,fun hl m hm=>frozB_other _ _ _ (fun hmem=> ?_),fun B0 w0 D α w xs hO hargs=>(told B0 w0 D α w xs hO hargs).mono ?_⟩
        ·have:=of_decide_eq_true (hall m hmem);omega
        ·rintro e w' ⟨y,rfl,hbel,hr⟩
         obtain ⟨hO1,hg1⟩:=ok_froz (frozIds H 8 args) hO
         obtain ⟨hO',hg'⟩:=ok_grow hO1 hbel
         exact ⟨y,D,α,rfl,hO',fun i hi=> .inl hi,hg1.trans hg',noD_to hr⟩
       ·cases h1
     ·cases h1
    ·exact inline h1
   ·exact inline h
  ·rename_i hown
   have hown:args.any owns=false:=by simpa using hown
   unfold callPlain at h
   split at h
   ·rename_i rv hrv
    simp only [Bool.cond_eq_ite] at h
    split at h
    ·rename_i hb
     have hany:=call_told hx.C (g:=g) (args:=args) (v:=rv.2) (by rw [hrv];exact congrArg some (by rw [← hb])) hown
     exact ⟨rv.2,H,h,Nat.le_refl _,fun _ _ _=>rfl,hany.does H,fun _ _=> ⟨rfl,hany⟩⟩
    ·cases h
   ·rename_i hn
    obtain ⟨v,H',h1,h2,h3,h4⟩:=inline h
    exact ⟨v,H',h1,h2,h3,h4,fun _ hs=>by rw [hn] at hs;cases hs⟩
 ·cases h
end
end Go.V
namespace Go.V
open Go Go.RowKit
section
variable {P : Program} {D D1 : Nat → Prop} {α α1 : Nat → Nat × Nat} {B B1 : Nat → Prop} {w : World} {ρ : Nat → Nat} {r : List Nat}
theorem noD_both {v:AV} {x:Value} (hB:∀ b,B1 b→B b) (h:v.Rel P α B w NoD x):v.Rel P α1 B1 w NoD x:=AV.Rel.mono v x ⟨fun _ h=>h,fun _ h=>h.elim,fun b cs ty fr h1 h2=> ⟨fun h=>h2 (hB b h),h1⟩⟩ h
mutual
theorem ren_rel (hρ:∀ i ∈ r,D i→D1 (ρ i)∧α1 (ρ i)=α i) (hB:∀ b,B1 b→B b):∀ (v:AV) (x:Value),(∀ i ∈ idsA v,i ∈ r)→v.Rel P α B w D x→(renA ρ v).Rel P α1 B1 w D1 x
 | .any,x,hi,h=>trivial
 | .val v,x,hi,h=>h
 | .ptr i off,x,hi,h=>by
  obtain ⟨h1,h2⟩:=hρ i (hi i (List.mem_singleton.2 rfl)) h.1
  exact ⟨h1,by rw [h2];exact h.2⟩
 | .sl fl t i off len,x,hi,h=>by
  obtain ⟨h1,h2⟩:=hρ i (hi i (List.mem_singleton.2 rfl)) h.1
  exact ⟨h1,by rw [h2];exact h.2⟩
 | .lst fl t n f,x,hi,h=>noD_both (v:= .lst fl t n f) (α:=α) hB h
 | .eptr t n f j off,x,hi,h=>noD_both (v:= .eptr t n f j off) (α:=α) hB h
 | .agg cs,x,hi,h=>by
  obtain ⟨ys,h1,h2⟩:=h
  exact ⟨ys,h1,ren_relL hρ hB cs _ hi h2⟩
 | .tup cs,x,hi,h=>by
  obtain ⟨ys,h1,h2⟩:=h
  exact ⟨ys,h1,ren_relL hρ hB cs _ hi h2⟩
 | .clo fn a b,x,hi,h=>by
  obtain ⟨xs,ys,h1,h2,h3⟩:=h
  exact ⟨xs,ys,h1,ren_relL hρ hB a _ (fun i h=>hi i (List.mem_append_left _ h)) h2,ren_relL hρ hB b _ (fun i h=>hi i (List.mem_append_right _ h)) h3⟩
 | .yld i,x,hi,h=>by
  obtain ⟨h1,h2⟩:=hρ i (hi i (List.mem_singleton.2 rfl)) h.1
  exact ⟨h1,by rw [h2];exact h.2⟩
theorem ren_relL (hρ:∀ i ∈ r,D i→D1 (ρ i)∧α1 (ρ i)=α i) (hB:∀ b,B1 b→B b):∀ (l:List AV) (ys:List Value),(∀ i ∈ idsL l,i ∈ r)→RelL P α B w l D ys→RelL P α1 B1 w (renL ρ l) D1 ys
 | [],ys,hi,h=>h
 | v :: l,ys,hi,h=>by
  obtain ⟨y,zs,h1,h2,h3⟩:=h
  exact ⟨y,zs,h1,ren_rel hρ hB v y (fun i h=>hi i (List.mem_append_left _ h)) h2,ren_relL hρ hB l zs (fun i h=>hi i (List.mem_append_right _ h)) h3⟩
end
mutual
theorem renA_id:∀ v:AV,renA (fun i=>i) v=v
 | .any=>rfl
 | .val v=>rfl
 | .ptr i off=>rfl
 | .sl fl t i off len=>rfl
 | .lst fl t n f=>rfl
 | .eptr t n f j off=>rfl
 | .agg cs=>by unfold renA;rw [renL_id cs]
 | .tup cs=>by unfold renA;rw [renL_id cs]
 | .clo fn a b=>by unfold renA;rw [renL_id a,renL_id b]
 | .yld i=>rfl
theorem renL_id:∀ l:List AV,renL (fun i=>i) l=l
 | []=>rfl
 | v :: l=>by unfold renL;rw [renA_id v,renL_id l]
end
theorem in_relL (hD:∀ i ∈ r,D i→D1 i) {l:List AV} {ys:List Value} (hi:∀ i ∈ idsL l,i ∈ r) (h:RelL P α B w l D ys):RelL P α B w l D1 ys:=by
 have:=ren_relL (P:=P) (α1:=α) (D1:=D1) (B1:=B) (ρ:=fun i=>i) (r:=r) (fun i h1 h2=> ⟨hD i h1 h2,rfl⟩) (fun _ h=>h) l ys hi h
 rwa [renL_id] at this
theorem avs_rel (hD:∀ i ∈ r,D i→D1 i) (c:Cont) {ys:List Value} (hi:∀ i ∈ c.ids,i ∈ r) (h:RelL P α B w c.avs D ys):RelL P α B w c.avs D1 ys:=by
 have plain:∀ (l:List AV),(∀ v ∈ l,∃ y,v= .val y)→∀ ys,RelL P α B w l D ys→RelL P α B w l D1 ys:=by
  intro l
  induction l with
  | nil=>intro _ ys h;exact h
  | cons v l ih=>
   intro hl ys h
   obtain ⟨y,zs,rfl,h2,h3⟩:=h
   obtain ⟨u,rfl⟩:=hl v List.mem_cons_self
   exact ⟨y,zs,rfl,h2,ih (fun v hv=>hl v (List.mem_cons_of_mem _ hv)) zs h3⟩
 cases c with
 | cells l=>exact in_relL hD hi h
 | ints k zs=>exact plain _ (fun v hv=>by obtain ⟨z,_,rfl⟩:=List.mem_map.1 hv;exact ⟨_,rfl⟩) ys h
 | vals vs=>exact plain _ (fun v hv=>by obtain ⟨z,_,rfl⟩:=List.mem_map.1 hv;exact ⟨_,rfl⟩) ys h
theorem blk_in (hD:∀ i ∈ r,D i→D1 i) {k:Blk} {a:Nat×Nat} (hi:∀ i ∈ k.ids,i ∈ r) (h:BlkRel P α B w D k a):BlkRel P α B w D1 k a:=by
 cases k with
 | row c ty st=>
  rcases h with h | ⟨cs,fr,h1,h2,h3,h4,h5⟩
  ·exact .inl h
  ·by_cases hs:st= .dead
   ·exact .inl hs
   ·exact .inr ⟨cs,fr,h1,h2,h3,h4,avs_rel hD c (fun i h=>hi i (by cases st <;> first | exact h | exact absurd rfl hs)) h5⟩
 | loop rc=>
  obtain ⟨L,h1,h2,h3,h4,h5,h6⟩:=h
  exact ⟨L,h1,h2,h3,h4,h5,in_relL hD hi h6⟩
theorem call_part {g:FuncId} {args:List AV} {H H':Hp} {v:AV} (hcd:CallDoes P g args H v H') (hpre:∀ m,m < H.length→H'[m]? =H[m]?) (hr:closedR r args H=true) (B0:Nat→Prop) (w0:World) (D:Nat→Prop) (α:Nat→Nat×Nat) (h:Hf) (w:World) (xs:Array Value)
  (hh:∀ m ∈ r,h m=H[m]?) (hO:Ok P B0 w0 D α h w) (hnew:∀ i,H.length≤i→i < H'.length→¬ D i) (hargs:RelL P α (Own B0 D α h) w args D xs.toList):
  CallsIn Fence.wide 0 P g xs w fun e w'=>∃ y D' α',e= .returned y∧Ok P B0 w0 D' α' (Nxt h H H' (r.map fun i=>(i,false))) w'∧(∀ i,D' i→D i∨(H.length≤i∧i < H'.length))∧Goes D D' α α' (OwnD D α h) (OwnD D' α' (Nxt h H H' (r.map fun i=>(i,false)))) w w'∧v.Rel P α' (Own B0 D' α' (Nxt h H H' (r.map fun i=>(i,false)))) w' D' y:=by
 classical
 unfold closedR at hr
 simp only [Bool.and_eq_true,List.all_eq_true,List.contains_iff_mem] at hr
 obtain ⟨hargi,hrH⟩:=hr
 have hblk:∀ i ∈ r,∃ b,H[i]? =some b∧∀ j ∈ b.ids,j ∈ r:=by
  intro i hi
  have:=hrH i hi
  split at this
  ·rename_i b hb
   exact ⟨b,hb,fun j hj=>List.contains_iff_mem.1 (List.all_eq_true.1 this j hj)⟩
  ·cases this
 have hrlt:∀ i ∈ r,i < H.length:=fun i hi=>by obtain ⟨b,hb,_⟩:=hblk i hi;exact (List.getElem?_eq_some_iff.1 hb).1
 let D0:Nat→Prop:=fun i=>D i∧i ∈ r
 let X:Nat→Prop:=fun b=>∃ i k,D i∧i ∉ r∧h i=some k∧k.isLive=true∧(α i).1=b
 let B1:Nat→Prop:=fun b=>B0 b∨X b
 have hown0:∀ b,OwnD D α h b↔OwnD D0 α (H[·]?) b∨X b:=by
  intro b
  constructor
  ·rintro ⟨i,k,h1,h2,h3,h4⟩
   by_cases hi:i ∈ r
   ·exact .inl ⟨i,k, ⟨h1,hi⟩,(hh i hi).symm.trans h2,h3,h4⟩
   ·exact .inr ⟨i,k,h1,hi,h2,h3,h4⟩
  ·rintro (⟨i,k, ⟨h1,hi⟩,h2,h3,h4⟩ | ⟨i,k,h1,hi,h2,h3,h4⟩)
   ·exact ⟨i,k,h1,(hh i hi).trans h2,h3,h4⟩
   ·exact ⟨i,k,h1,h2,h3,h4⟩
 have hownE:Own B1 D0 α (H[·]?)=Own B0 D α h:=by
  funext b
  apply propext
  constructor
  ·rintro ((hb | hb) | hb)
   ·exact .inl hb
   ·exact .inr ((hown0 b).2 (.inr hb))
   ·exact .inr ((hown0 b).2 (.inl hb))
  ·rintro (hb | hb)
   ·exact .inl (.inl hb)
   ·rcases (hown0 b).1 hb with hb | hb
    ·exact .inr hb
    ·exact .inl (.inr hb)
 have hXno:∀ b,X b→¬ OwnD D0 α (H[·]?) b:=by
  rintro b ⟨i,k,h1,h2,h3,h4,h5⟩ ⟨j,l, ⟨e1,e2⟩,e3,e4,e5⟩
  have:=hO.inj i j k l h1 e1 h3 ((hh j e2).trans e3) h4 e4 (h5.trans e5.symm)
  subst this
  exact h2 e2
 have hO1:Ok P B1 w0 D0 α (H[·]?) w:=by
  refine ⟨?_,hO.below, ?_, ?_,fun i hi=>hO.fresh i hi.1, ?_, ?_, ?_⟩
  ·rintro i ⟨hi,hir⟩
   obtain ⟨b,hb,_⟩:=hblk i hir
   exact ⟨b,hb⟩
  ·rintro b (hb | hb)
   ·exact hO.old b hb
   ·have hb2:OwnD D α h b:=(hown0 b).2 (.inr hb)
    refine ⟨?_,fun ds hd=>own_cells hO hd hb2⟩
    obtain ⟨i,k,h1,_,_,_,rfl⟩:=hb
    exact (hO.fresh i h1).2
  ·rintro b (hb | hb) hc
   ·exact hO.sep b hb ((hown0 b).2 (.inl hc))
   ·exact hXno b hb hc
  ·rintro i j k l ⟨hi,hir⟩ ⟨hj,hjr⟩ h1 h2
   exact hO.inj i j k l hi hj ((hh i hir).trans h1) ((hh j hjr).trans h2)
  ·rintro i k ⟨hi,hir⟩ h1 h2
   rw [hownE]
   exact hO.frz i k hi ((hh i hir).trans h1) h2
  ·rintro i k ⟨hi,hir⟩ h1
   rw [hownE]
   obtain ⟨b,hb,hbi⟩:=hblk i hir
   have h1':H[i]? =some k:=h1
   rw [hb] at h1'
   cases h1'
   exact blk_in (fun i h1 h2=> ⟨h2,h1⟩) hbi (hO.blk i _ hi ((hh i hir).trans h1))
 refine (hcd B1 w0 D0 α w xs hO1 (by rw [hownE];exact in_relL (fun i h1 h2=> ⟨h2,h1⟩) hargi hargs)).mono ?_
 rintro e w' ⟨y,D',α',rfl,hO',hD',hG,hv⟩
 have hsz:=goes_size hO1 hO' hG
 let D2:Nat→Prop:=fun i=>D' i∨(D i∧i ∉ r)
 let α2:Nat→Nat×Nat:=fun i=>if D i∧i ∉ r then α i else α' i
 have hα':∀ i,D' i→α2 i=α' i:=by
  intro i hi
  refine if_neg ?_
  rintro ⟨h1,h2⟩
  rcases hD' i hi with h3 | h3
  ·exact h2 h3.2
  ·exact hnew i h3.1 h3.2 h1
 have hαX:∀ i,D i→i ∉ r→α2 i=α i:=fun i h1 h2=>if_pos ⟨h1,h2⟩
 have hn':∀ i,D' i→Nxt h H H' (r.map fun i=>(i,false)) i=H'[i]? :=by
  intro i hi
  unfold Nxt
  split
  ·rfl
  ·rename_i hn
   rcases hD' i hi with h3 | h3
   ·exact (hh i h3.2).trans (hpre i (hrlt i h3.2)).symm
   ·exact absurd (.inr h3) hn
 have hnX:∀ i,D i→i ∉ r→Nxt h H H' (r.map fun i=>(i,false)) i=h i:=by
  intro i h1 h2
  unfold Nxt
  rw [if_neg]
  rintro (h3 | h3)
  ·obtain ⟨j,_,hj⟩:=List.mem_map.1 h3
   cases hj
  ·exact hnew i h3.1 h3.2 h1
 have hown2:∀ b,OwnD D2 α2 (Nxt h H H' (r.map fun i=>(i,false))) b↔OwnD D' α' (H'[·]?) b∨X b:=by
  intro b
  constructor
  ·rintro ⟨i,k,h1 | ⟨h1,h2⟩,h3,h4,h5⟩
   ·rw [hn' i h1] at h3
    rw [hα' i h1] at h5
    exact .inl ⟨i,k,h1,h3,h4,h5⟩
   ·rw [hnX i h1 h2] at h3
    rw [hαX i h1 h2] at h5
    exact .inr ⟨i,k,h1,h2,h3,h4,h5⟩
  ·rintro (⟨i,k,h1,h2,h3,h4⟩ | ⟨i,k,h1,h2,h3,h4,h5⟩)
   ·exact ⟨i,k, .inl h1,(hn' i h1).trans h2,h3,by rw [hα' i h1];exact h4⟩
   ·exact ⟨i,k, .inr ⟨h1,h2⟩,(hnX i h1 h2).trans h3,h4,by rw [hαX i h1 h2];exact h5⟩
 have hownE2:Own B0 D2 α2 (Nxt h H H' (r.map fun i=>(i,false)))=Own B1 D' α' (H'[·]?):=by
  funext b
  apply propext
  constructor
  ·rintro (hb | hb)
   ·exact .inl (.inl hb)
   ·rcases (hown2 b).1 hb with hb | hb
    ·exact .inr hb
    ·exact .inl (.inr hb)
  ·rintro ((hb | hb) | hb)
   ·exact .inl hb
   ·exact .inr ((hown2 b).2 (.inr hb))
   ·exact .inr ((hown2 b).2 (.inl hb))
 have hG2:Goes D D2 α α2 (OwnD D α h) (OwnD D2 α2 (Nxt h H H' (r.map fun i=>(i,false)))) w w':=by
  refine ⟨fun i hi=> ?_,fun i hi=> ?_,fun b o h1 h2=> ?_⟩
  ·by_cases hir:i ∈ r
   ·exact .inl (hG.le i ⟨hi,hir⟩)
   ·exact .inr ⟨hi,hir⟩
  ·by_cases hir:i ∈ r
   ·rw [hα' i (hG.le i ⟨hi,hir⟩)];exact hG.same i ⟨hi,hir⟩
   ·exact hαX i hi hir
  ·have h3:=hG.block b o h1 (fun hc=>h2 ((hown0 b).2 (.inl hc)))
   exact ⟨fun hc=>((hown2 b).1 hc).elim h3.1 (fun hx=>h2 ((hown0 b).2 (.inr hx))),h3.2⟩
 have hk':Keeps D' D2 α' α2 (Own B1 D' α' (H'[·]?)) (Own B0 D2 α2 (Nxt h H H' (r.map fun i=>(i,false)))) w' w':= ⟨fun i hi=> .inl hi,hα',fun b cs ty fr h1 h2=> ⟨by rw [hownE2];exact h2,h1⟩⟩
 have hkX:=hG2.keeps B0
 refine ⟨y,D2,α2,rfl, ⟨?_,hO'.below,fun b hb=>hO'.old b (.inl hb), ?_, ?_, ?_, ?_, ?_⟩, ?_,hG2,AV.Rel.mono _ _ hk' hv⟩
 ·rintro i (hi | ⟨hi,hir⟩)
  ·rw [hn' i hi];exact hO'.lt i hi
  ·rw [hnX i hi hir];exact hO.lt i hi
 ·intro b hb hc
  rcases (hown2 b).1 hc with hc | hc
  ·exact hO'.sep b (.inl hb) hc
  ·exact hO.sep b hb ((hown0 b).2 (.inr hc))
 ·rintro i (hi | ⟨hi,hir⟩)
  ·rw [hα' i hi];exact hO'.fresh i hi
  ·rw [hαX i hi hir]
   have:=hO.fresh i hi
   omega
 ·rintro i j k l (hi | ⟨hi,hir⟩) (hj | ⟨hj,hjr⟩) h1 h2 h3 h4 h5
  ·rw [hn' i hi] at h1
   rw [hn' j hj] at h2
   rw [hα' i hi,hα' j hj] at h5
   exact hO'.inj i j k l hi hj h1 h2 h3 h4 h5
  ·rw [hn' i hi] at h1
   rw [hnX j hj hjr] at h2
   rw [hα' i hi,hαX j hj hjr] at h5
   exact absurd ⟨i,k,hi,h1,h3,rfl⟩ (hO'.sep (α' i).1 (.inr ⟨j,l,hj,hjr,h2,h4,h5.symm⟩))
  ·rw [hnX i hi hir] at h1
   rw [hn' j hj] at h2
   rw [hαX i hi hir,hα' j hj] at h5
   exact absurd ⟨j,l,hj,h2,h4,rfl⟩ (hO'.sep (α' j).1 (.inr ⟨i,k,hi,hir,h1,h3,h5⟩))
  ·rw [hnX i hi hir] at h1
   rw [hnX j hj hjr] at h2
   rw [hαX i hi hir,hαX j hj hjr] at h5
   exact hO.inj i j k l hi hj h1 h2 h3 h4 h5
 ·rintro i k (hi | ⟨hi,hir⟩) h1 h2 hc
  ·rw [hn' i hi] at h1
   rw [hα' i hi,hownE2] at hc
   exact hO'.frz i k hi h1 h2 hc
  ·rw [hnX i hi hir] at h1
   rw [hαX i hi hir,hownE2,] at hc
   have hno:=hO.frz i k hi h1 h2
   rcases hc with (hc | hc) | hc
   ·exact hno (.inl hc)
   ·exact hno (.inr ((hown0 _).2 (.inr hc)))
   ·have hlt:=(hO.fresh i hi).2
    have h6:=hG.block _ _ (Array.getElem?_eq_getElem hlt) (fun hc=>hno (.inr ((hown0 _).2 (.inl hc))))
    exact h6.1 hc
 ·rintro i k (hi | ⟨hi,hir⟩) h1
  ·rw [hn' i hi] at h1
   rw [hα' i hi]
   exact BlkRel.mono hk' (fun o ho _=>ho) (hO'.blk i k hi h1)
  ·rw [hnX i hi hir] at h1
   rw [hαX i hi hir]
   refine BlkRel.mono hkX (fun o ho hlf=> ?_) (hO.blk i k hi h1)
   refine (hG.block _ o ho (fun hc=> ?_)).2
   rcases hlf with hlf | hlf
   ·exact hXno _ ⟨i,k,hi,hir,h1,hlf,rfl⟩ hc
   ·exact hO.frz i k hi h1 hlf (.inr ((hown0 _).2 (.inl hc)))
 ·rintro i (hi | ⟨hi,_⟩)
  ·exact (hD' i hi).elim (fun h=> .inl h.1) .inr
  ·exact .inl hi
end
end Go.V
namespace Go.V
open Go Go.RowKit
section
variable {R : Type} {P : Program} {ro : Option Nat} {T : List AV} {o : Oper} {H : Hp} {k : Kn R} {r : R}
theorem run_callValue {c:Call} {f:Operand} (ho:o.op= .call c) (hc:c.callee= .value f) {a:Act} {w:World} {g:FuncId} {xs ys:Array Value} (hev:a.eval f= .func (.func g) xs ys) (hg:okFn P g=true):(execOp a.eval o).run P w= .ok (.enter g (xs ++ c.args.map a.eval ++ ys)) w:=by
 obtain ⟨cal,as,ts⟩:=c
 simp only at hc
 subst hc
 unfold okFn at hg
 cases hfn:P.funcs[g]? with
 | none=>rw [hfn] at hg;cases hg
 | some fn=>
  rw [hfn] at hg
  simp only [Bool.and_eq_true,Bool.not_eq_true',beq_eq_false_iff_ne] at hg
  have hb:fn.body.isNone=false:=by
   cases hbb:fn.body with
   | none=>rw [hbb] at hg;simp at hg
   | some c=>rfl
  have hn : (fn.name == "runtime.NumGoroutine") = false := by simpa using hg.2
  unfold execOp
  rw [ho]
  simp only [resolve,hev,Deferred.ofValue,Sem.run_bind,Sem.run_pure,Result.andThen,invoke,callFunc,run_program,hfn,hn,hb,Bool.false_eq_true,if_false]
theorem call_wp {a:Act} {w:World} {g:FuncId} {zs:Array Value} {K:Act→World→Prop} {Q:Exit→Act→World→Prop} {R':Ending→World→Prop} (hnd:∀ c,o.op≠ .defer c) (hr:(execOp a.eval o).run P w= .ok (.enter g zs) w) (hc:CallsIn Fence.wide 0 P g zs w R') (hR:∀ e w',R' e w'→∃ y,e= .returned y∧K (a.put o.dst y) w'):o.wpIn (W ro) 0 P a w K Q:=by
 refine ⟨fun _ _=>trivial, ?_⟩
 rw [Oper.semAt_eq _ _ _ hnd,hr,Oper.uponIn_enter]
 refine ⟨(fun h=>by cases h), ?_⟩
 have hc':CallsIn (W ro) (0 - 1) P g zs w R':=hc
 refine hc'.mono ?_
 intro e w' he
 obtain ⟨y,rfl,hk⟩:=hR e w' he
 exact hk
theorem rel_args {D:Nat→Prop} {α:Nat→Nat×Nat} {B:Nat→Prop} {w:World} {a:Act} (as:Array Operand) (h:∀ x ∈ as,(evA T x).Rel P α B w D (a.eval x)):RelL P α B w (as.toList.map (evA T)) D (as.map a.eval).toList:=by
 rw [Array.toList_map]
 exact rel_map _ (fun x hx=>h x (Array.mem_toList_iff.1 hx))
theorem constL (D:Nat→Prop) {α:Nat→Nat×Nat} {B:Nat→Prop} {w:World} :∀ (l:List Value),RelL P α B w (l.map constA) D l
 | []=>rfl
 | v :: l=> ⟨v,l,rfl,toAV1_rel v,constL D l⟩
theorem fn_rel {fv:AV} {g:FuncId} {first cap:List AV} (hf:fv= .clo (.func g) first cap∨∃ a b:Array Value,fv= .val (.func (.func g) a b)∧first=a.toList.map constA∧cap=b.toList.map constA) {D:Nat→Prop} {α:Nat→Nat×Nat} {B:Nat→Prop} {w:World} {u:Value} (hu:fv.Rel P α B w D u):
  ∃ xs ys:Array Value,u= .func (.func g) xs ys∧RelL P α B w first D xs.toList∧RelL P α B w cap D ys.toList:=by
 rcases hf with rfl | ⟨a,b,rfl,rfl,rfl⟩
 ·exact hu
 ·exact ⟨a,b,hu,constL D _,constL D _⟩
theorem does_call {c:Call} {f:Operand} (ho:o.op= .call c) (hc:c.callee= .value f) {g:FuncId} {first cap:List AV} (hf:evA T f= .clo (.func g) first cap∨∃ a b:Array Value,evA T f= .val (.func (.func g) a b)∧first=a.toList.map constA∧cap=b.toList.map constA) (hg:okFn P g=true) {v:AV} {H':Hp}
  (hcd:CallDoes P g (first ++ c.args.toList.map (evA T) ++ cap) H v H') (B0:Nat→Prop) (w0:World):Does P B0 w0 ro T o (H[·]?) (H[·]?) H.length H'.length v (H'[·]?) true:=by
 intro ro D α a w K Q hO hnew hT hK
 have hnd:∀ c,o.op≠ .defer c:=fun c h=>by rw [ho] at h;cases h
 have hfm:f ∈ o.op.operands:=by rw [ho];simp [Op.operands,Call.operands,hc]
 obtain ⟨xs,ys,he,hr1,hr2⟩:=fn_rel hf (hT f hfm)
 have hargs:=rel_args (P:=P) (T:=T) (D:=D) (α:=α) (B:=Own B0 D α (H[·]?)) (w:=w) (a:=a) c.args (fun x hx=>hT x (by rw [ho];simp only [Op.operands,Call.operands,Array.mem_append];exact .inr hx))
 refine call_wp hnd (run_callValue ho hc he hg) (hcd B0 w0 D α w _ hO (by rw [Array.toList_append,Array.toList_append];exact RelL.append (RelL.append hr1 hargs) hr2)) ?_
 rintro e w' ⟨y,D',α',rfl,h1,h2,h3,h4⟩
 exact ⟨y,rfl,hK D' α' w' y h1 h2 h3 h4⟩
theorem does_yield {c:Call} {f:Operand} (ho:o.op= .call c) (hc:c.callee= .value f) {i:Nat} (hf:evA T f= .yld i) {v:AV} {H':Hp} (hcd:YieldDoes P i (c.args.toList.map (evA T)) H v H') (B0:Nat→Prop) (w0:World):Does P B0 w0 ro T o (H[·]?) (H[·]?) H.length H'.length v (H'[·]?) true:=by
 intro ro D α a w K Q hO hnew hT hK
 have hnd:∀ c,o.op≠ .defer c:=fun c h=>by rw [ho] at h;cases h
 have hfm:f ∈ o.op.operands:=by rw [ho];simp [Op.operands,Call.operands,hc]
 have h1:=hT f hfm
 rw [hf] at h1
 obtain ⟨hi,he⟩:=h1
 have hargs:=rel_args (P:=P) (T:=T) (D:=D) (α:=α) (B:=Own B0 D α (H[·]?)) (w:=w) (a:=a) c.args (fun x hx=>hT x (by rw [ho];simp only [Op.operands,Call.operands,Array.mem_append];exact .inr hx))
 obtain ⟨fn,tmps,assign,body,hy,hR⟩:=hcd B0 w0 D α w (c.args.map a.eval) hO hi hargs
 have hr:(execOp a.eval o).run P w= .ok (.round (α i).1 fn tmps assign body) w:=by
  obtain ⟨cal,as,ts⟩:=c
  simp only at hc
  subst hc
  unfold execOp
  rw [ho]
  simp only [resolve,he,Deferred.ofValue,Sem.run_bind,Sem.run_pure,Result.andThen,invoke,Array.empty_append]
  simpa using hy
 refine ⟨fun _ _=>trivial, ?_⟩
 rw [Oper.semAt_eq _ _ _ hnd,hr,Oper.uponIn_round]
 refine ⟨(fun h=>by cases h), ?_⟩
 have hR':RoundIn (W ro) (0 - 1) P (α i).1 fn tmps assign body w (After P B0 w0 D α (H[·]?) w H.length H'.length v (H'[·]?)):=hR
 refine hR'.mono ?_
 rintro e w' ⟨y,D',α',rfl,h1,h2,h3,h4⟩
 exact hK D' α' w' y h1 h2 h3 h4
theorem StepOk.all {tc:Tch} {lo:Nat} (h:StepOk P ro T o H tc lo k r):StepOk P ro T o H .all lo k r:=by
 obtain ⟨v,H',h1,h2,h3⟩:=h
 exact ⟨v,H',h1,h2,fun B0 w0=> ⟨(h3 B0 w0).1,(h3 B0 w0).does⟩⟩
theorem head_rd {v:AV} {H':Hp} (hl:H.length≤H'.length) (hpre:∀ m,m < H.length→H'[m]? =H[m]?) (hd:∀ B0 w0,Does P B0 w0 ro T o (H[·]?) (H[·]?) H.length H'.length v (H'[·]?) true) (B0:Nat→Prop) (w0:World):HeadDoes P B0 w0 ro T o H v H' (.some true []):=by
 refine ⟨hl,fun m hm _=>hpre m hm,fun h hh ro D α a w K Q hO hnew hT hK=> ?_⟩
 have hlt:∀ i,D i→i < H.length:=fun i hi=>by
  rcases Nat.lt_or_ge i H.length with h | h
  ·exact h
  ·exact absurd hi (hnew.1 i h (.inr rfl))
 have hag:∀ i,D i→h i=H[i]? :=fun i hi=>hnew.2 rfl i hi
 have hOw:∀ b,OwnD D α h b↔OwnD D α (H[·]?) b:=by
  intro b
  constructor
  ·rintro ⟨i,k,h1,h2,h3⟩;exact ⟨i,k,h1,(hag i h1).symm.trans h2,h3⟩
  ·rintro ⟨i,k,h1,h2,h3⟩;exact ⟨i,k,h1,(hag i h1).trans h2,h3⟩
 have hOe:OwnD D α h=OwnD D α (H[·]?):=funext fun b=>propext (hOw b)
 have hOe2:Own B0 D α h=Own B0 D α (H[·]?):=by funext b;unfold Own;rw [hOe]
 have hO':Ok P B0 w0 D α (H[·]?) w:=by
  refine ⟨fun i hi=> ?_,hO.below,hO.old,fun b hb hc=>hO.sep b hb ((hOw b).2 hc),hO.fresh,fun i j k l hi hj h1 h2=> ?_,fun i k hi h1 h2 hc=> ?_,fun i k hi h1=> ?_⟩
  ·have:=hO.lt i hi;rwa [hag i hi] at this
  ·exact hO.inj i j k l hi hj ((hag i hi).trans h1) ((hag j hj).trans h2)
  ·exact hO.frz i k hi ((hag i hi).trans h1) h2 (by rw [hOe2];exact hc)
  ·rw [← hOe2];exact hO.blk i k hi ((hag i hi).trans h1)
 refine hd B0 w0 ro D α a w K Q hO' ⟨fun i hi _=>hnew.1 i hi (.inr rfl),fun _ _ _=>rfl⟩ (fun x hx=>by rw [← hOe2];exact hT x hx) (fun D' α' w' x h1 h2 h3 h4=> ?_)
 have hag':∀ i,D' i→Nxt h H H' [] i=H'[i]? :=by
  intro i hi
  unfold Nxt
  split
  ·rfl
  ·rename_i hn
   rcases h2 i hi with h5 | h5
   ·rw [hag i h5];exact (hpre i (hlt i h5)).symm
   ·exact absurd (.inr h5) hn
 have hOw':∀ b,OwnD D' α' (Nxt h H H' []) b↔OwnD D' α' (H'[·]?) b:=by
  intro b
  constructor
  ·rintro ⟨i,k,h1,h2,h3⟩;exact ⟨i,k,h1,(hag' i h1).symm.trans h2,h3⟩
  ·rintro ⟨i,k,h1,h2,h3⟩;exact ⟨i,k,h1,(hag' i h1).trans h2,h3⟩
 have hOe':OwnD D' α' (Nxt h H H' [])=OwnD D' α' (H'[·]?):=funext fun b=>propext (hOw' b)
 have hOe2':Own B0 D' α' (Nxt h H H' [])=Own B0 D' α' (H'[·]?):=by funext b;unfold Own;rw [hOe']
 refine hK D' α' w' x ⟨fun i hi=> ?_,h1.below,h1.old,fun b hb hc=>h1.sep b hb ((hOw' b).1 hc),h1.fresh,fun i j k l hi hj e1 e2=> ?_,fun i k hi e1 e2 hc=> ?_,fun i k hi e1=> ?_⟩ h2 (by rw [hOe,hOe'];exact h3) (by rw [hOe2'];exact h4)
 ·have:=h1.lt i hi;rwa [hag' i hi]
 ·exact h1.inj i j k l hi hj ((hag' i hi).symm.trans e1) ((hag' j hj).symm.trans e2)
 ·exact h1.frz i k hi ((hag' i hi).symm.trans e1) e2 (by rw [← hOe2'];exact hc)
 ·rw [hOe2'];exact h1.blk i k hi ((hag' i hi).symm.trans e1)
theorem step_value {x:Cx R} (hx:CxOk x) (hP:x.P=P) {c:Call} {f:Operand} (ho:o.op= .call c) (hc:c.callee= .value f) (h:stepValue x (evA T f) (c.args.toList.map (evA T)) H k=some r):
  StepOk P ro T o H .all x.lo k r∧(x.lo=H.length→StepOk P ro T o H (touchCall x.E T H c) x.lo k r):=by
 subst hP
 have htc:touchCall x.E T H c=touchFn H (funcOf (evA T f)) (c.args.toList.map (evA T)):=by
  unfold touchCall
  rw [hc]
 have fin:∀ {g:FuncId} {first cap:List AV},funcOf (evA T f)=some (g,first,cap)→(evA T f= .clo (.func g) first cap∨∃ a b:Array Value,evA T f= .val (.func (.func g) a b)∧first=a.toList.map constA∧cap=b.toList.map constA)→callStep x g (first ++ c.args.toList.map (evA T) ++ cap) H k=some r→
   StepOk x.P ro T o H .all x.lo k r∧(x.lo=H.length→StepOk x.P ro T o H (touchCall x.E T H c) x.lo k r):=by
  intro g first cap hfo hf hcs
  obtain ⟨hok,v,H',h1,h2,h3,h4,h5⟩:=callStep_sound hx hcs
  have hd:=fun B0 w0=>does_call (ro:=ro) ho hc hf hok h4 B0 w0
  refine ⟨⟨v,H',h1,h3,fun B0 w0=> ⟨h2,hd B0 w0⟩⟩,fun hlo=> ?_⟩
  rw [htc,hfo]
  unfold touchFn touchR
  simp only
  cases hcl:closedR (reach H 60 (idsL (first ++ c.args.toList.map (evA T) ++ cap)) []) (first ++ c.args.toList.map (evA T) ++ cap) H with
  | false=>exact ⟨v,H',h1,h3,fun B0 w0=>head_rd h2 (fun m hm=>h3 (by omega) m (by omega)) hd B0 w0⟩
  | true=>
   simp only [cond]
   generalize reach H 60 (idsL (first ++ c.args.toList.map (evA T) ++ cap)) []=rs at hcl
   refine ⟨v,H',h1,h3,fun B0 w0=> ⟨h2,fun m hm _=>h3 (by omega) m (by omega),fun h hh ro D α a w K Q hO hnew hT hK=> ?_⟩⟩
   have hnd:∀ c,o.op≠ .defer c:=fun c h=>by rw [ho] at h;cases h
   have hfm:f ∈ o.op.operands:=by rw [ho];simp [Op.operands,Call.operands,hc]
   obtain ⟨xs,ys,he,hr1,hr2⟩:=fn_rel hf (hT f hfm)
   have hargs:=rel_args (P:=x.P) (T:=T) (D:=D) (α:=α) (B:=Own B0 D α h) (w:=w) (a:=a) c.args (fun x hx=>hT x (by rw [ho];simp only [Op.operands,Call.operands,Array.mem_append];exact .inr hx))
   have hrlt:∀ i ∈ rs,i < H.length:=by
    intro i hi
    unfold closedR at hcl
    rw [Bool.and_eq_true] at hcl
    have:=List.all_eq_true.1 hcl.2 i hi
    split at this
    ·rename_i b hb;exact (List.getElem?_eq_some_iff.1 hb).1
    ·cases this
   refine call_wp hnd (run_callValue ho hc he hok) (call_part h4 (fun m hm=>h3 (by omega) m (by omega)) hcl B0 w0 D α h w _ (fun m hm=>hh m ⟨false,List.mem_map.2 ⟨m,hm,rfl⟩⟩ (hrlt m hm)) hO (fun i h1 h2=>hnew.1 i h1 (.inl h2)) (by rw [Array.toList_append,Array.toList_append];exact RelL.append (RelL.append hr1 hargs) hr2)) ?_
   rintro e w' ⟨y,D',α',rfl,e1,e2,e3,e4⟩
   exact ⟨y,rfl,hK D' α' w' y e1 e2 e3 e4⟩
 unfold stepValue at h
 split at h
 ·rename_i v hev
  split at h
  ·rename_i fn a b
   split at h
   ·rename_i g
    exact fin (by rw [hev];rfl) (.inr ⟨a,b,hev,rfl,rfl⟩) h
   ·cases h
  ·cases h
 ·rename_i fn a b hev
  split at h
  ·rename_i g
   exact fin (by rw [hev];rfl) (.inl hev) h
  ·cases h
 ·rename_i i hev
  obtain ⟨v,H',h1,h2,h3,h4⟩:=hx.yf x.lo i _ H k r h
  have hd:=fun B0 w0=>does_yield (ro:=ro) ho hc hev h4 B0 w0
  refine ⟨⟨v,H',h1,h3,fun B0 w0=> ⟨h2,hd B0 w0⟩⟩,fun hlo=> ?_⟩
  rw [htc,hev]
  exact ⟨v,H',h1,h3,fun B0 w0=>head_rd h2 (fun m hm=>h3 (by omega) m (by omega)) hd B0 w0⟩
 ·cases h
theorem step_callOp {x:Cx R} (hx:CxOk x) (hP:x.P=P) {c:Call} (ho:o.op= .call c) (h:stepCall x T o c H k=some r):
  StepOk P ro T o H .all x.lo k r∧(x.lo=H.length∨isCall o.op=false→StepOk P ro T o H (touchCall x.E T H c) x.lo k r):=by
 have two:∀ {tc:Tch},StepOk P ro T o H tc x.lo k r→touchCall x.E T H c=tc→StepOk P ro T o H .all x.lo k r∧(x.lo=H.length∨isCall o.op=false→StepOk P ro T o H (touchCall x.E T H c) x.lo k r):=by
  intro tc hs htc
  rw [htc]
  exact ⟨hs.all,fun _=>hs⟩
 have nd:∀ c,o.op≠ .defer c:=fun c h=>by rw [ho] at h;cases h
 unfold stepCall at h
 split at h
 ·rename_i f hc
  unfold stepFn at h
  split at h
  ·rename_i v he
   rw [hP] at he
   have htc:∃ rd l,touchCall x.E T H c= .some rd l∧∀ m,(m,true) ∉ l:=by
    unfold touchCall
    rw [hc]
    simp only
    unfold touchFn
    split
    ·unfold touchR
     rw [Bool.cond_eq_ite]
     split
     ·exact ⟨_,_,rfl,fun m hm=>by obtain ⟨j,_,hj⟩:=List.mem_map.1 hm;cases hj⟩
     ·exact ⟨_,_,rfl,fun m hm=>by simp at hm⟩
    ·exact ⟨_,_,rfl,fun m hm=>by simp at hm⟩
   obtain ⟨rd,l,htc,hl⟩:=htc
   exact two (step_esc ho hc he h rd hl) htc
  obtain ⟨h1,h2⟩:=step_value (ro:=ro) hx hP ho hc h
  refine ⟨h1,fun hor=>h2 (hor.resolve_right (fun hn=> ?_))⟩
  rw [ho] at hn
  obtain ⟨cal,as,ts⟩:=c
  simp only at hc
  subst hc
  simp [isCall] at hn
 ·rename_i b hc
  have htb:b≠ .append→b≠ .unsafeString→touchCall x.E T H c= .some false []:=by
   intro hb hb2
   unfold touchCall
   rw [hc]
   split
   ·rename_i e;cases e;exact absurd rfl hb
   ·rename_i e;cases e;exact absurd rfl hb2
   ·rfl
   ·rename_i e;cases e
   ·rename_i e _;exact absurd rfl (e b)
  unfold stepBuiltin at h
  rw [hP] at h
  split at h
  ·exact two (step_len ho hc h) (htb (by simp) (by simp))
  ·exact two (step_append (E:=x.E) ho hc h) rfl
  ·exact two (step_data ho hc h) (htb (by simp) (by simp))
  ·exact two (step_str ho hc h) (by unfold touchCall;rw [hc];cases c.args.toList <;> rfl)
  ·exact two (step_plain nd h) (htb (by simp) (by simp))
  ·exact two (step_plain nd h) (htb (by simp) (by simp))
  ·exact two (step_plain nd h) (htb (by simp) (by simp))
  ·cases h
 ·cases h
theorem step_sound {x:Cx R} (hx:CxOk x) (hP:x.P=P) (h:stepOp x T o H k=some r):
  StepOk P ro T o H .all x.lo k r∧(x.lo=H.length∨isCall o.op=false→StepOk P ro T o H (touchA x.E T H o) x.lo k r):=by
 have two:∀ {tc:Tch},StepOk P ro T o H tc x.lo k r→touchA x.E T H o=tc→StepOk P ro T o H .all x.lo k r∧(x.lo=H.length∨isCall o.op=false→StepOk P ro T o H (touchA x.E T H o) x.lo k r):=by
  intro tc hs htc
  rw [htc]
  exact ⟨hs.all,fun _=>hs⟩
 unfold stepOp at h
 rw [hP] at h
 split at h
 ·rename_i ho;exact two (step_same (.inl ho) h) (by unfold touchA;rw [ho])
 ·rename_i ho;exact two (step_same (.inr ho) h) (by unfold touchA;rw [ho])
 ·rename_i ho;exact two (step_pick ho h) (by unfold touchA;rw [ho])
 ·rename_i ho;exact two (step_alloc ho h) (by unfold touchA;rw [ho])
 ·rename_i ho;exact two (step_box ho h) (by unfold touchA;rw [ho])
 ·rename_i ho;exact two (step_build ho h) (by unfold touchA;rw [ho])
 ·rename_i ho;exact two (step_buildSlice ho h) (by unfold touchA;rw [ho])
 ·rename_i ho;exact two (step_load ho h) (by unfold touchA;rw [ho])
 ·rename_i ho;exact two (step_store ho h) (by unfold touchA;rw [ho])
 ·rename_i ho;exact two (step_field ho h) (by unfold touchA;rw [ho])
 ·rename_i ho;exact two (step_fieldV ho h) (by unfold touchA;rw [ho])
 ·rename_i ho;exact two (step_indexAddr ho h) (by unfold touchA;rw [ho])
 ·rename_i ho;exact two (step_index ho h) (by unfold touchA;rw [ho])
 ·rename_i ho;exact two (step_slice ho h) (by unfold touchA;rw [ho])
 ·rename_i ho;exact two (step_conv2 ho h) (by unfold touchA;rw [ho])
 ·rename_i ho;exact two (step_make ho h) (by unfold touchA;rw [ho])
 ·rename_i ho;exact two (step_makeFunc ho h) (by unfold touchA;rw [ho])
 ·rename_i ho;exact two (step_nil ho h) (by unfold touchA;rw [ho])
 ·rename_i ho;exact two (step_bin2 ho h) (by unfold touchA;rw [ho])
 ·rename_i ho;exact two (step_extract ho h) (by unfold touchA;rw [ho])
 ·rename_i c ho
  obtain ⟨h1,h2⟩:=step_callOp (ro:=ro) hx hP ho h
  exact ⟨h1,fun hor=>by have:=h2 hor;unfold touchA;rw [ho];exact this⟩
 ·rename_i ho;exact two (step_plain (fun c h=>by rw [ho] at h;cases h) h) (by unfold touchA;rw [ho])
 ·cases h
end
end Go.V
namespace Go.V
open Go Go.RowKit
section
variable {ops : Array Oper}
structure Order (ops:Array Oper) (m:Nat) (c:Nat→List Nat):Prop where
 le:m≤ops.size
 tail:∀ d,d < ops.size→m≤d→∀ i,i < d→i ∈ c d
 edge:∀ d,d < ops.size→∃ o,ops[d]? =some o∧(∀ e ∈ edges o,e < d)∧∀ i ∈ c d,i ∈ edges o∨∃ e ∈ edges o,i ∈ c e
 head:∀ i,i < m→∃ o,ops[i]? =some o∧∀ j,j < m→∃ o',ops[j]? =some o'∧(i=j∨o.dst=none∨o.dst≠o'.dst)∧∀ t,o'.dst=some t→t ∈ o.looksAt ops→j ∈ c i∨i ∈ c j
theorem order_of (h:drawOk ops=true):Order ops (headN ops) (fun d=>(closT ops.toList).getD d []):=by
 unfold drawOk at h
 simp only [Bool.and_eq_true,beq_iff_eq,decide_eq_true_eq] at h
 obtain ⟨⟨⟨⟨h1,h2⟩,h3⟩,h4⟩,h5⟩:=h
 simp only [Array.length_toList] at h1 h2 h3 h4 h5
 have hm:headCount (closT ops.toList) ops.size=headN ops:=rfl
 rw [hm] at h2 h3 h5
 generalize closT ops.toList=c at*
 generalize headN ops=m at*
 have hget:∀ i:Nat,ops.toList[i]? =ops[i]? :=fun i=>Array.getElem?_toList
 refine ⟨h3, ?_, ?_, ?_⟩
 ·intro d hd hmd i hi
  unfold tailOk at h2
  have:=List.all_eq_true.1 h2 d (List.mem_range.2 hd)
  rw [Bool.or_eq_true,decide_eq_true_eq] at this
  rcases this with this | this
  ·omega
  ·exact List.contains_iff_mem.1 (List.all_eq_true.1 this i (List.mem_range.2 hi))
 ·intro d hd
  have:=List.all_eq_true.1 h4 d (List.mem_range.2 hd)
  rw [hget] at this
  cases ho:ops[d]? with
  | none=>rw [ho] at this;cases this
  | some o=>
   rw [ho] at this
   simp only [Bool.and_eq_true,List.all_eq_true,decide_eq_true_eq,Bool.or_eq_true,List.any_eq_true,List.contains_iff_mem] at this
   exact ⟨o,rfl,this.1,this.2⟩
 ·intro i hi
  have:=List.all_eq_true.1 h5 i (List.mem_range.2 hi)
  rw [hget] at this
  cases ho:ops[i]? with
  | none=>rw [ho] at this;cases this
  | some o=>
   rw [ho] at this
   refine ⟨o,rfl,fun j hj=> ?_⟩
   have:=List.all_eq_true.1 this j (List.mem_range.2 hj)
   rw [hget] at this
   cases ho':ops[j]? with
   | none=>rw [ho'] at this;cases this
   | some o'=>
    rw [ho'] at this
    simp only [Bool.and_eq_true,Bool.or_eq_true,beq_iff_eq,Bool.not_eq_true',beq_eq_false_iff_ne,Option.isNone_iff_eq_none] at this
    refine ⟨o',rfl, ?_, ?_⟩
    ·rcases this.1 with (h | h) | h
     ·exact .inl h
     ·exact .inr (.inl h)
     ·exact .inr (.inr h)
    ·intro t ht hl
     have h6:=this.2
     rw [ht] at h6
     simp only [Bool.or_eq_true,Bool.not_eq_true',List.contains_iff_mem] at h6
     rcases h6 with h6 | h6
     ·rw [← Bool.not_eq_true,List.contains_iff_mem] at h6;exact absurd hl h6
     ·exact h6
variable {m : Nat} {c : Nat → List Nat}
theorem Order.lt (h:Order ops m c):∀ d,d < ops.size→∀ i ∈ c d,i < d:=by
 intro d
 induction d using Nat.strongRecOn with
 | _ d ih=>
  intro hd i hi
  obtain ⟨o,ho,h1,h2⟩:=h.edge d hd
  rcases h2 i hi with h3 | ⟨e,h3,h4⟩
  ·exact h1 i h3
  ·have:=h1 e h3
   have:=ih e this (by omega) i h4
   omega
def Closed (ops:Array Oper) (b:Nat→Bool):Prop:=∀ d o,ops[d]? =some o→b d=true→∀ e ∈ edges o,b e=true
theorem Order.up (h:Order ops m c) {b:Nat→Bool} (hb:Closed ops b):∀ d,d < ops.size→(∀ o,ops[d]? =some o→∀ e ∈ edges o,b e=true)→∀ i ∈ c d,b i=true:=by
 intro d
 induction d using Nat.strongRecOn with
 | _ d ih=>
  intro hd he i hi
  obtain ⟨o,ho,h1,h2⟩:=h.edge d hd
  rcases h2 i hi with h3 | ⟨e,h3,h4⟩
  ·exact he o ho i h3
  ·have hlt:=h1 e h3
   exact ih e hlt (by omega) (fun o' ho'=>hb e o' ho' (he o ho e h3)) i h4
def lb (listed:Array Bool) (j:Nat):Bool:=listed.getD j false
theorem ready_iff {listed:Array Bool} (hs:listed.size=ops.size) (i:Nat):i ∈ Region.ready .any ops listed↔∃ o,ops[i]? =some o∧lb listed i=false∧∀ e ∈ edges o,lb listed e=true:=by
 unfold Region.ready
 rw [List.mem_filter,List.mem_range]
 constructor
 ·rintro ⟨hi,h⟩
  rw [Bool.and_eq_true] at h
  have ho:ops[i]? =some ops[i]:=Array.getElem?_eq_getElem hi
  refine ⟨ops[i],ho, ?_, ?_⟩
  ·have h1:=h.1
   unfold lb
   rw [Array.getD_eq_getD_getElem?,Array.getElem?_eq_getElem (by omega)] at h1 ⊢
   simpa using h1
  ·have h2:=h.2
   rw [ho] at h2
   simp only [Option.map_some,Option.getD_some,Array.all_eq_true_iff_forall_mem,Bool.or_eq_true,Bool.not_eq_true'] at h2
   intro e he
   unfold edges at he
   rw [List.mem_map] at he
   obtain ⟨x,hx,rfl⟩:=he
   rw [List.mem_filter] at hx
   rcases h2 x (Array.mem_toList_iff.1 hx.1) with h3 | h3
   ·rw [h3] at hx;cases hx.2
   ·exact h3
 ·rintro ⟨o,ho,h1,h2⟩
  have hi:i < ops.size:=(Array.getElem?_eq_some_iff.1 ho).1
  refine ⟨hi, ?_⟩
  rw [Bool.and_eq_true,ho]
  constructor
  ·unfold lb at h1
   rw [Array.getD_eq_getD_getElem?,Array.getElem?_eq_getElem (by omega)] at h1 ⊢
   simpa using h1
  ·simp only [Option.map_some,Option.getD_some,Array.all_eq_true_iff_forall_mem,Bool.or_eq_true,Bool.not_eq_true']
   intro x hx
   cases hb:Region.binds .any x with
   | false=>exact .inl rfl
   | true=>
    refine .inr (h2 x.on ?_)
    unfold edges
    exact List.mem_map.2 ⟨x,List.mem_filter.2 ⟨Array.mem_toList_iff.2 hx,hb⟩,rfl⟩
theorem lb_set {listed:Array Bool} {i:Nat} (hi:i < listed.size) (j:Nat):lb (listed.setIfInBounds i true) j=if j=i then true else lb listed j:=by
 unfold lb
 rw [Array.getD_eq_getD_getElem?,Array.getD_eq_getD_getElem?]
 by_cases h:j=i
 ·subst h
  rw [if_pos rfl,Array.getElem?_setIfInBounds_self_of_lt hi]
  rfl
 ·rw [if_neg h,Array.getElem?_setIfInBounds_ne (Ne.symm h)]
theorem closed_set {listed:Array Bool} (hs:listed.size=ops.size) (hc:Closed ops (lb listed)) {i:Nat} {o:Oper} (ho:ops[i]? =some o) (he:∀ e ∈ edges o,lb listed e=true):Closed ops (lb (listed.setIfInBounds i true)):=by
 have hi:i < listed.size:=by rw [hs];exact (Array.getElem?_eq_some_iff.1 ho).1
 intro d o' hd hb e hee
 rw [lb_set hi] at hb ⊢
 by_cases h:e=i
 ·rw [if_pos h]
 ·rw [if_neg h]
  by_cases hdi:d=i
  ·subst hdi
   rw [ho] at hd
   cases hd
   exact he e hee
  ·rw [if_neg hdi] at hb
   exact hc d o' hd hb e hee
def left (n:Nat) (b:Nat→Bool):Nat:=((List.range n).filter fun j=> !b j).length
theorem left_set {n i:Nat} {b b':Nat→Bool} (hi:i < n) (hb:b i=false) (hb':∀ j,b' j=if j=i then true else b j):left n b=left n b'+1:=by
 unfold left
 induction n with
 | zero=>omega
 | succ n ih=>
  rw [List.range_succ,List.filter_append,List.filter_append,List.length_append,List.length_append]
  by_cases hin:i=n
  ·subst hin
   have e1:(List.range i).filter (fun j=> !b j)=(List.range i).filter (fun j=> !b' j):=by
    apply List.filter_congr
    intro j hj
    rw [hb' j,if_neg (by have:=List.mem_range.1 hj;omega)]
   rw [e1]
   simp [hb,hb' i]
  ·have:=ih (by omega)
   have e2:b' n=b n:=by rw [hb' n,if_neg (by omega)]
   simp only [List.filter_cons,List.filter_nil,e2]
   omega
end
noncomputable def yieldedA (T:List AV) (ops:Array Oper) (j:Nat):Option Bool:=
 match (ops[j]?).bind (·.dst) with
 | some d=>match lget T d with
  | .val (.bool b)=>some b
  | _=>none
 | none=>none
section
variable {R : Type} {P : Program} {B0 : Nat → Prop} {w0 : World} {F : Fr} {ro : Option Nat} {ops : Array Oper}
theorem lget_none {T:List AV} {d:Nat} (h:T[d]? =none):lget T d= .any:=by rw [lget_eq,h];rfl
theorem lget_some {T:List AV} {d:Nat} {v:AV} (h:T[d]? =some v):lget T d=v:=by rw [lget_eq,h];rfl
theorem fix_eq {T:List AV} {d:Nat} {b:Bool} (h:lget T d= .val (.bool b)):fixB T d b=T:=by
 unfold fixB
 rw [lset_eq]
 rw [lget_eq] at h
 apply List.ext_getElem?
 intro i
 by_cases hi:i=d
 ·subst hi
  cases hd:T[i]? with
  | none=>rw [hd] at h;cases h
  | some v=>
   rw [hd] at h
   rw [List.getElem?_set_self (List.getElem?_eq_some_iff.1 hd).1]
   exact congrArg some h.symm
 ·rw [List.getElem?_set_ne (Ne.symm hi)]
def SlotRel (P:Program) (α:Nat→Nat×Nat) (B:Nat→Prop) (w:World) (D:Nat→Prop) (T:List AV) (tmps:Array Value) (d:Nat):Prop:=(T[d]? =none∧tmps[d]? =none)∨∃ v x,T[d]? =some v∧tmps[d]? =some x∧v.Rel P α B w D x
theorem yielded_eq {α:Nat→Nat×Nat} {B:Nat→Prop} {w:World} {D:Nat→Prop} {T:List AV} {tmps:Array Value} {j:Nat}
  (h:∀ d,(ops[j]?).bind (·.dst)=some d→SlotRel P α B w D T tmps d) (hk:∀ d,(ops[j]?).bind (·.dst)=some d→∃ v,lget T d= .val v):yielded ops tmps j=yieldedA T ops j:=by
 unfold yielded yieldedA
 cases hd:(ops[j]?).bind (·.dst) with
 | none=>rfl
 | some d=>
  obtain ⟨v,hv⟩:=hk d hd
  rcases h d hd with ⟨h1,h2⟩ | ⟨u,x,h1,h2,h3⟩
  ·rw [lget_none h1] at hv;cases hv
  ·rw [lget_some h1] at hv
   subst hv
   rw [show x=v from h3] at h2
   simp only [Option.bind_some,h2,lget_some h1]
   cases v <;> rfl
theorem RelL.slot {α:Nat→Nat×Nat} {B:Nat→Prop} {w:World} {D:Nat→Prop} {T:List AV} {tmps:Array Value} (h:RelL P α B w T D tmps.toList) (d:Nat):SlotRel P α B w D T tmps d:=by
 cases hv:T[d]? with
 | none=>
  left
  have:=RelL.len h
  rw [Array.length_toList] at this
  exact ⟨hv,Array.getElem?_eq_none (by rw [this];exact List.getElem?_eq_none_iff.1 hv)⟩
 | some v=>
  obtain ⟨x,h1,h2⟩:=RelL.get h hv
  rw [Array.getElem?_toList] at h1
  exact .inr ⟨v,x,hv,h1,h2⟩
theorem eval_rel {α:Nat→Nat×Nat} {B:Nat→Prop} {w:World} {D:Nat→Prop} {T:List AV} {a:Act} (x:Operand) (h:∀ d,x= .tmp d→SlotRel P α B w D T a.tmps d):(evA T x).Rel P α B w D (a.eval x):=by
 cases x with
 | tmp d=>
  show (lget T d).Rel P α B w D (a.tmps.getD d undef)
  rcases h d rfl with ⟨h1,h2⟩ | ⟨v,y,h1,h2,h3⟩
  ·rw [lget_none h1];trivial
  ·rw [lget_some h1,Array.getD_eq_getD_getElem?,h2];exact h3
 | const v=>exact toAV1_rel v
 | global g=>rfl
 | func f=>rfl
theorem put_set (dst:Option Tmp) (v:AV) (T:List AV):putA dst v T=(match dst with | some d=>T.set d v | none=>T):=by
 cases dst with
 | none=>rfl
 | some d=>exact lset_eq T d v
theorem sim_step {D D':Nat→Prop} {α α':Nat→Nat×Nat} {h h':Hf} {T:List AV} {a:Act} {w w':World} (hw:w0.heap.size≤F.w.heap.size) (hM:Marks F.w.heap.size w a.defers) (hO:Ok P B0 w0 D α h w) (hT:RelL P α (Own B0 D α h) w T D a.tmps.toList) (hF:Goes F.D D F.α α F.C (OwnD D α h) F.w w)
  (hO':Ok P B0 w0 D' α' h' w') (hg:Goes D D' α α' (OwnD D α h) (OwnD D' α' h') w w') (hn:∀ i,D' i→i < F.n→F.D i) (dst:Option Tmp) {v:AV} {x:Value} (hv:v.Rel P α' (Own B0 D' α' h') w' D' x):Sim P B0 w0 F (putA dst v T) h' (a.put dst x) w':=by
 have hd:(a.put dst x).defers=a.defers:=by cases dst <;> rfl
 refine ⟨by rw [hd];exact hM.mono hO hO' hg,D',α',hO', ?_,hF.trans hg,hn⟩
 have hT':=RelL.mono _ _ (hg.keeps B0) hT
 rw [put_set]
 cases dst with
 | none=>exact hT'
 | some d=>
  show RelL P α' (Own B0 D' α' h') w' (T.set d v) D' (a.tmps.setIfInBounds d x).toList
  rw [Array.toList_setIfInBounds]
  exact RelL.set hT' d hv
theorem wpOp_of {Q:Exit→Act→World→Prop} {i:Nat} {o:Oper} {K:Act→World→Prop} {a:Act} {w:World} (hi:ops[i]? =some o)
  (h1:Region.wanted o (yielded ops a.tmps)=true→o.wpIn (W ro) 0 P a w K Q) (h2:Region.wanted o (yielded ops a.tmps)=false→K (a.put o.dst undef) w):wpOpIn (W ro) 0 P ops Q i K a w:=by
 unfold wpOpIn
 simp only [hi]
 cases hw:Region.wanted o (yielded ops a.tmps) with
 | true=>simp only [if_true];exact h1 hw
 | false=>simp only [Bool.false_eq_true,if_false];exact ⟨fun _ _=>trivial,h2 hw⟩
def GuardKnown (T:List AV) (ops:Array Oper) (o:Oper):Prop:=∀ j want,o.guard=some (j,want)→∀ d,(ops[j]?).bind (·.dst)=some d→∃ v,lget T d= .val v
def One (P : Program) (ops : Array Oper) (hd : Bool) (o : Oper) (T : List AV) (H : Hp) (lo : Nat) (v : AV) (H' : Hp) (tc : Tch × Nat × Nat) : Prop :=
  H.length ≤ H'.length ∧ (lo ≤ H.length → ∀ m, m < lo → H'[m]? = H[m]?) ∧ GuardKnown T ops o ∧
  ((Region.wanted o (yieldedA T ops) = true ∧ tc.2 = (H.length, H'.length) ∧ (∀ B0 w0, Does P B0 w0 none T o (H[·]?) (H[·]?) H.length H'.length v (H'[·]?) true) ∧ (hd = true → ∀ B0 w0, HeadDoes P B0 w0 none T o H v H' tc.1)) ∨
   (Region.wanted o (yieldedA T ops) = false ∧ v = .val undef ∧ H' = H ∧ tc = (.some false [], H.length, H.length)))
theorem run_one {x:Cx R} (hx:CxOk x) (hP:x.P=P) {hd:Bool} {o:Oper} {T:List AV} {H:Hp} {tl:Tl} {next:Lk R} {r:R} (h:ixRun x hd o T H tl next=some r) (hk:GuardKnown T ops o) (hw:Region.wanted o (yieldedA T ops)=true):∃ v H' tc,next (putA o.dst v T) H' (tc :: tl)=some r∧One P ops hd o T H x.lo v H' tc:=by
 unfold ixRun at h
 have hx':CxOk (headX x hd o H):=by
  unfold headX
  cases hd&&isCall o.op <;> exact ⟨hx.C,hx.cf,hx.yf⟩
 have hP':(headX x hd o H).P=P:=by
  unfold headX
  cases hd&&isCall o.op <;> exact hP
 have hE':(headX x hd o H).E=x.E:=by
  unfold headX
  cases hd&&isCall o.op <;> rfl
 obtain ⟨h1,h2⟩:=step_sound (ro:=none) hx' hP' h
 cases hd with
 | false=>
  have hlo:(headX x false o H).lo=x.lo:=rfl
  obtain ⟨v,H',k1,k2,k3⟩:=h1
  exact ⟨v,H',_,k1,(k3 (fun _=>False) default).1,by rw [hlo] at k2;exact k2,hk, .inl ⟨hw,rfl,fun B0 w0=>(k3 B0 w0).does,fun h=>by cases h⟩⟩
 | true=>
  have hor:(headX x true o H).lo=H.length∨isCall o.op=false:=by
   unfold headX
   cases hc:isCall o.op with
   | true=>exact .inl rfl
   | false=>exact .inr rfl
  obtain ⟨v,H',k1,k2,k3⟩:=h2 hor
  rw [hE'] at k3
  have hle:=(k3 (fun _=>False) default).1
  refine ⟨v,H',_,k1,hle,fun hl m hm=> ?_,hk, .inl ⟨hw,rfl,fun B0 w0=>(k3 B0 w0).does,fun _ B0 w0=>k3 B0 w0⟩⟩
  have hlo:(headX x true o H).lo=x.lo∨(headX x true o H).lo=H.length:=by
   unfold headX
   cases isCall o.op with
   | true=>exact .inr rfl
   | false=>exact .inl rfl
  rcases hlo with hlo | hlo
  ·exact k2 (by omega) m (by omega)
  ·exact k2 (by omega) m (by omega)
theorem exec_one {x:Cx R} (hx:CxOk x) (hP:x.P=P) {hd:Bool} {o:Oper} {T:List AV} {H:Hp} {tl:Tl} {next:Lk R} {r:R} (h:ixOne x ops hd o T H tl next=some r):∃ v H' tc,next (putA o.dst v T) H' (tc :: tl)=some r∧One P ops hd o T H x.lo v H' tc:=by
 unfold ixOne at h
 have skip:∀ {T':List AV},T'=T→Region.wanted o (yieldedA T ops)=false→GuardKnown T ops o→ixSkip o T' H tl next=some r→∃ v H' tc,next (putA o.dst v T) H' (tc :: tl)=some r∧One P ops hd o T H x.lo v H' tc:=by
  rintro T' rfl hw hk h
  exact ⟨_,H,_,h,Nat.le_refl _,fun _ _ _=>rfl,hk, .inr ⟨hw,rfl,rfl,rfl⟩⟩
 split at h
 ·rename_i hg
  exact run_one (ops:=ops) hx hP h (fun j want e=>by rw [hg] at e;cases e) (by rw [Region.wanted,hg])
 ·rename_i jw hg
  obtain ⟨j,want⟩:=jw
  have hw:Region.wanted o (yieldedA T ops)=(yieldedA T ops j==some want):=by rw [Region.wanted,hg]
  split at h
  ·rename_i d hdst
   unfold ixGuard at h
   split at h
   ·rename_i v hv
    have hk:GuardKnown T ops o:=by
     intro j' want' e d' hd'
     rw [hg] at e
     cases e
     simp only at hdst
     rw [hdst] at hd'
     cases hd'
     exact ⟨v,hv⟩
    split at h
    ·rename_i b
     have hy:yieldedA T ops j=some b:=by unfold yieldedA;simp only at hdst;rw [hdst];simp only [hv]
     have hfx:fixB T d b=T:=fix_eq hv
     cases b with
     | true=>
      cases want with
      | true=>
       simp only [cond] at h
       rw [hfx] at h
       exact run_one (ops:=ops) hx hP h hk (by rw [hw,hy];rfl)
      | false=>exact skip hfx (by rw [hw,hy];rfl) hk h
     | false=>
      cases want with
      | true=>exact skip hfx (by rw [hw,hy];rfl) hk h
      | false=>
       simp only [cond] at h
       rw [hfx] at h
       exact run_one (ops:=ops) hx hP h hk (by rw [hw,hy];rfl)
    ·rename_i hnb
     have hy:yieldedA T ops j=none:=by
      unfold yieldedA
      simp only at hdst
      rw [hdst]
      simp only [hv]
      split
      ·rename_i e;cases e;exact absurd rfl (hnb _)
      ·rfl
     exact skip rfl (by rw [hw,hy];rfl) hk h
   ·cases h
  ·cases h
end
end Go.V
namespace Go.V
open Go Go.RowKit
section
variable {R : Type} {P : Program} {B0 : Nat → Prop} {w0 : World} {F : Fr} {ro : Option Nat} {ops : Array Oper}
theorem fre_list {D:Nat→Prop} {α:Nat→Nat×Nat} {w:World} {H:Hp} {n':Nat} (hO:Ok P B0 w0 D α (H[·]?) w):Fre D (H[·]?) (H[·]?) H.length n' true:=
 ⟨fun i hi _ hD=>by obtain ⟨k,hk⟩:=hO.lt i hD;have:=(List.getElem?_eq_some_iff.1 hk).1;omega,fun _ _ _=>rfl⟩
theorem one_wp {hd:Bool} {i:Nat} {o:Oper} {T:List AV} {H:Hp} {lo:Nat} {v:AV} {H':Hp} {tc:Tch×Nat×Nat} (hi:ops[i]? =some o) (h:One P ops hd o T H lo v H' tc) (hw0:w0.heap.size≤F.w.heap.size) (hfn:F.n≤H.length) {a:Act} {w:World} (hs:Sim P B0 w0 F T (H[·]?) a w) {K:Act→World→Prop} {Q:Exit→Act→World→Prop}
  (hK:∀ a' w',Sim P B0 w0 F (putA o.dst v T) (H'[·]?) a' w'→K a' w'):wpOpIn (W ro) 0 P ops Q i K a w:=by
 obtain ⟨hM,D,α,hO,hT,hF,hN⟩:=hs
 obtain ⟨_,_,hk,h⟩:=h
 have hy:Region.wanted o (yielded ops a.tmps)=Region.wanted o (yieldedA T ops):=by
  unfold Region.wanted
  cases hg:o.guard with
  | none=>rfl
  | some jw=>obtain ⟨j,want⟩:=jw;simp only [yielded_eq (fun d _=>RelL.slot hT d) (fun d hd=>hk j want hg d hd)]
 refine wpOp_of hi (fun hw=> ?_) (fun hw=> ?_)
 ·rcases h with ⟨_,_,h,_⟩ | ⟨h,_⟩
  ·refine h B0 w0 ro D α a w _ _ hO (fre_list hO) (fun x _=>eval_rel x (fun d _=>RelL.slot hT d)) ?_
   intro D' α' w' x hO' hD hg hv
   exact hK _ _ (sim_step hw0 hM hO hT hF hO' hg (fun i hi hlt=>(hD i hi).elim (fun h=>hN i h hlt) (fun h=>by omega)) o.dst hv)
  ·rw [hy,h] at hw;cases hw
 ·rcases h with ⟨h,_⟩ | ⟨_,rfl,rfl,_⟩
  ·rw [hy,h] at hw;cases hw
  ·exact hK _ _ (sim_step hw0 hM hO hT hF hO (Goes.refl _ _ _ _) hN o.dst rfl)
theorem exec_ix {x:Cx R} (hx:CxOk x) (hP:x.P=P):∀ (l:List (Bool×Oper)) (is:List Nat) (T:List AV) (H:Hp) (tl:Tl) (k:Lk R) (r:R),l.length=is.length→(∀ (j i:Nat) (o:Bool×Oper),is[j]? =some i→l[j]? =some o→ops[i]? =some o.2)→execIx x ops l T H tl k=some r→
  ∃ T' H' ex,k T' H' (ex ++ tl)=some r∧H.length≤H'.length∧(x.lo≤H.length→∀ m,m < x.lo→H'[m]? =H[m]?)∧∀ (ro:Option Nat) (B0:Nat→Prop) (w0:World) (F:Fr) (Q:Exit→Act→World→Prop),w0.heap.size≤F.w.heap.size→F.n≤H.length→∀ a w,Sim P B0 w0 F T (H[·]?) a w→(∀ a' w',Sim P B0 w0 F T' (H'[·]?) a' w'→Q .normal a' w')→wpOpsIn (W ro) 0 P ops Q is a w
 | [], [],T,H,tl,k,r,_,_,h=> ⟨T,H, [],h,Nat.le_refl _,fun _ _ _=>rfl,fun ro B0 w0 F Q _ _ a w hs hQ=>hQ a w hs⟩
 | [],_ :: _,_,_,_,_,_,hl,_,_=>by simp at hl
 | _ :: _, [],_,_,_,_,_,hl,_,_=>by simp at hl
 | o :: l,i :: is,T,H,tl,k,r,hl,hidx,h=>by
  unfold execIx at h
  obtain ⟨v,H1,tc,h1,h2⟩:=exec_one hx hP h
  have hi:ops[i]? =some o.2:=hidx 0 i o rfl rfl
  obtain ⟨T',H',ex,e1,e2,e3,e4⟩:=exec_ix hx hP l is _ _ _ k r (by simpa using hl) (fun j i' o' h3 h4=>hidx (j+1) i' o' (by simpa using h3) (by simpa using h4)) h1
  refine ⟨T',H',ex ++ [tc],by rw [List.append_assoc];exact e1,Nat.le_trans h2.1 e2,fun hlo m hm=>(e3 (Nat.le_trans hlo h2.1) m hm).trans (h2.2.1 hlo m hm),fun ro B0 w0 F Q hw0 hfn a w hs hQ=> ?_⟩
  rw [wpOpsIn_cons]
  exact one_wp hi h2 hw0 hfn hs (fun a' w' hs'=>e4 ro B0 w0 F Q hw0 (Nat.le_trans hfn h2.1) a' w' hs' hQ)
structure Run (P:Program) (ops:Array Oper) (m:Nat) (Ts:Nat→List AV) (Hs:Nat→Hp) (tcs:Nat→Tch×Nat×Nat):Prop where
 step:∀ i,i < m→∃ o v,ops[i]? =some o∧Ts (i+1)=putA o.dst v (Ts i)∧∃ lo,One P ops true o (Ts i) (Hs i) lo v (Hs (i+1)) (tcs i)
theorem run_of {x:Cx R} (hx:CxOk x) (hP:x.P=P) (u:List (Bool×Oper)):∀ (l:List (Bool×Oper)) (s:Nat) (T:List AV) (H:Hp) (tl:Tl) (k:Lk R) (r:R),(∀ (j:Nat) (o:Bool×Oper),l[j]? =some o→ops[s+j]? =some o.2∧o.1=true)→execIx x ops (l ++ u) T H tl k=some r→
  ∃ (Ts:Nat→List AV) (Hs:Nat→Hp) (tcs:Nat→Tch×Nat×Nat),Ts s=T∧Hs s=H∧(∀ i,s≤i→i < s+l.length→∃ o v,ops[i]? =some o∧Ts (i+1)=putA o.dst v (Ts i)∧One P ops true o (Ts i) (Hs i) x.lo v (Hs (i+1)) (tcs i))∧
   execIx x ops u (Ts (s+l.length)) (Hs (s+l.length)) (((List.range' s l.length).map tcs).reverse ++ tl) k=some r
 | [],s,T,H,tl,k,r,_,h=> ⟨fun _=>T,fun _=>H,fun _=>(.all,0,0),rfl,rfl,fun i h1 h2=>by simp at h2;omega,by simpa using h⟩
 | o :: l,s,T,H,tl,k,r,hidx,h=>by
  rw [List.cons_append] at h
  unfold execIx at h
  obtain ⟨hi,ht⟩:=hidx 0 o rfl
  rw [ht] at h
  obtain ⟨v,H1,tc,h1,h2⟩:=exec_one hx hP h
  obtain ⟨Ts,Hs,tcs,e1,e2,e3,e4⟩:=run_of hx hP u l (s+1) _ _ _ k r (fun j o' hj=>by have:=hidx (j+1) o' (by simpa using hj);rwa [show s+(j+1)=s+1+j by omega] at this) h1
  refine ⟨fun i=>if i=s then T else Ts i,fun i=>if i=s then H else Hs i,fun i=>if i=s then tc else tcs i,if_pos rfl,if_pos rfl,fun i h3 h4=> ?_, ?_⟩
  ·rw [List.length_cons] at h4
   by_cases his:i=s
   ·subst his
    simp only [if_true,show ¬ i+1=i by omega,if_false]
    exact ⟨o.2,v,hi,e1,by rw [e2];exact h2⟩
   ·simp only [his,if_false,show ¬ i+1=s by omega]
    exact e3 i (by omega) (by omega)
  ·have e5:s+(o :: l).length=s+1+l.length:=by rw [List.length_cons];omega
   rw [e5]
   simp only [show ¬ s+1+l.length=s by omega,if_false]
   have e6:((List.range' s (o :: l).length).map fun i=>if i=s then tc else tcs i).reverse ++ tl=((List.range' (s+1) l.length).map tcs).reverse ++ (tc :: tl):=by
    rw [List.length_cons,List.range'_succ,List.map_cons,List.reverse_cons,List.append_assoc]
    simp only [if_true,List.singleton_append]
    congr 2
    apply List.map_congr_left
    intro i hi
    rw [if_neg]
    have:=List.mem_range'_1.1 hi
    omega
   rw [e6]
   exact e4
variable {m : Nat} {Ts : Nat → List AV} {Hs : Nat → Hp} {tcs : Nat → Tch × Nat × Nat} {c : Nat → List Nat}
def dstOf (ops:Array Oper) (j:Nat):Option Tmp:=(ops[j]?).bind (·.dst)
theorem put_get {dst:Option Tmp} {v:AV} {T:List AV} {t:Nat} (h:dst≠some t):(putA dst v T)[t]? =T[t]? :=by
 rw [put_set]
 cases dst with
 | none=>rfl
 | some d=>exact List.getElem?_set_ne (fun e=>h (by rw [e]))
theorem put_len (dst:Option Tmp) (v:AV) (T:List AV):(putA dst v T).length=T.length:=by
 rw [put_set]
 cases dst with
 | none=>rfl
 | some d=>exact List.length_set
theorem Run.len (h:Run P ops m Ts Hs tcs):∀ i,i≤m→(Ts i).length=(Ts 0).length:=by
 intro i
 induction i with
 | zero=>intro _;rfl
 | succ i ih=>
  intro hi
  obtain ⟨o,v,_,e,_⟩:=h.step i (by omega)
  rw [e,put_len,ih (by omega)]
theorem Run.seg (h:Run P ops m Ts Hs tcs) {t:Nat} {i:Nat} :∀ i',i≤i'→i'≤m→(∀ j,i≤j→j < i'→dstOf ops j≠some t)→(Ts i')[t]? =(Ts i)[t]? :=by
 intro i'
 induction i' with
 | zero=>intro h1 h2 h3;rw [show i=0 by omega]
 | succ i' ih=>
  intro h1 h2 h3
  by_cases hi:i=i'+1
  ·rw [hi]
  ·obtain ⟨o,v,ho,e,_⟩:=h.step i' (by omega)
   have hd:=h3 i' (by omega) (by omega)
   unfold dstOf at hd
   rw [ho] at hd
   have hd':o.dst≠some t:=hd
   rw [e,put_get hd']
   exact ih (by omega) (by omega) (fun j h4 h5=>h3 j h4 (by omega))
theorem Run.mono (h:Run P ops m Ts Hs tcs) {i:Nat} :∀ i',i≤i'→i'≤m→(Hs i).length≤(Hs i').length:=by
 intro i'
 induction i' with
 | zero=>intro h1 h2;rw [show i=0 by omega];exact Nat.le_refl _
 | succ i' ih=>
  intro h1 h2
  by_cases hi:i=i'+1
  ·rw [hi];exact Nat.le_refl _
  ·obtain ⟨o,v,_,_,lo,h3⟩:=h.step i' (by omega)
   exact Nat.le_trans (ih (by omega) (by omega)) h3.1
def Wr (Hs:Nat→Hp) (tcs:Nat→Tch×Nat×Nat) (j n:Nat):Prop:=(n,true) ∈ (tcs j).1.ls∨((Hs j).length≤n∧n < (Hs (j+1)).length)
structure Apart (m:Nat) (c:Nat→List Nat) (Hs:Nat→Hp) (tcs:Nat→Tch×Nat×Nat):Prop where
 some:∀ i,i < m→(tcs i).1.isSome=true
 ids:∀ i,i < m→(tcs i).2=((Hs i).length,(Hs (i+1)).length)
 rd1:∀ i j,i < j→j < m→i ∉ c j→(tcs i).1.rd=true→(∀ n,(n,true) ∉ (tcs j).1.ls)∧(Hs (j+1)).length≤(Hs j).length
 rd2:∀ i j,i < j→j < m→i ∉ c j→(tcs j).1.rd=true→∀ n,(n,true) ∉ (tcs i).1.ls
 both:∀ i j,i < j→j < m→i ∉ c j→∀ n a b,(n,a) ∈ (tcs i).1.ls→(n,b) ∈ (tcs j).1.ls→a=false∧b=false
 low:∀ j,j < m→∀ n b,(n,b) ∈ (tcs j).1.ls→n < (Hs j).length
 new:∀ i j,i < j→j < m→i ∉ c j→∀ n b,(n,b) ∈ (tcs j).1.ls→¬ ((Hs i).length≤n∧n < (Hs (i+1)).length)
theorem noWr_spec {l:List (Nat×Bool)} (h:noWr l=true) (n:Nat):(n,true) ∉ l:=by
 intro hm
 have:=List.all_eq_true.1 h _ hm
 simp at this
theorem apart_of {tl:Tl} (hr:∀ i,i < headN ops→tl.reverse[i]? =some (tcs i)) (hid:∀ i,i < headN ops→(tcs i).2=((Hs i).length,(Hs (i+1)).length)) (h:touchOk ops tl=true):Apart (headN ops) (fun d=>(closT ops.toList).getD d []) Hs tcs:=by
 unfold touchOk at h
 rw [List.all_eq_true] at h
 have key:∀ i j,i < j→j < headN ops→i ∉ (closT ops.toList).getD j []→apart2 (tcs i) (tcs j)=true:=by
  intro i j hij hj hn
  have h1:=h j (List.mem_range.2 hj)
  rw [Bool.and_eq_true] at h1
  have h2:=List.all_eq_true.1 h1.2 i (List.mem_range.2 hij)
  rw [hr i (by omega),hr j hj,Bool.or_eq_true,List.contains_iff_mem] at h2
  exact h2.resolve_left hn
 have some:∀ i,i < headN ops→(tcs i).1.isSome=true:=by
  intro i hi
  have h1:=h i (List.mem_range.2 hi)
  rw [Bool.and_eq_true,hr i hi,Bool.and_eq_true] at h1
  exact h1.1.1
 have low:∀ j,j < headN ops→∀ n b,(n,b) ∈ (tcs j).1.ls→n < (Hs j).length:=by
  intro j hj n b hm
  have h1:=h j (List.mem_range.2 hj)
  rw [Bool.and_eq_true,hr j hj,Bool.and_eq_true] at h1
  have h2:=of_decide_eq_true (List.all_eq_true.1 h1.1.2 _ hm)
  rw [hid j hj] at h2
  exact h2
 have parts:∀ i j,i < j→j < headN ops→i ∉ (closT ops.toList).getD j []→apart (tcs i).1 (tcs j).1=true∧((tcs i).1.rd=false∨(tcs j).2.2≤(tcs j).2.1)∧∀ y ∈ (tcs j).1.ls,¬ ((tcs i).2.1≤y.1∧y.1 < (tcs i).2.2):=by
  intro i j hij hj hn
  have:=key i j hij hj hn
  unfold apart2 at this
  simp only [Bool.and_eq_true,Bool.or_eq_true,Bool.not_eq_true',List.all_eq_true,decide_eq_true_eq] at this
  refine ⟨this.1.1,this.1.2,fun y hy hc=> ?_⟩
  have h3:=this.2 y hy
  rw [Bool.and_eq_false_iff] at h3
  rcases h3 with h3 | h3
  ·exact absurd hc.1 (of_decide_eq_false h3)
  ·exact absurd hc.2 (of_decide_eq_false h3)
 have ap:∀ {x y:Tch},apart x y=true→x.isSome=true→y.isSome=true→(x.rd=true→∀ n,(n,true) ∉ y.ls)∧(y.rd=true→∀ n,(n,true) ∉ x.ls)∧∀ n a b,(n,a) ∈ x.ls→(n,b) ∈ y.ls→a=false∧b=false:=by
  intro x y hxy hx hy
  cases x with
  | all=>cases hx
  | some a l=>
   cases y with
   | all=>cases hy
   | some b m=>
    unfold apart at hxy
    split at hxy
    ·rename_i e
     cases e
     exact ⟨fun h=>(by cases h),fun _ n h=>(by simp [Tch.ls] at h),fun n a b h=>(by simp [Tch.ls] at h)⟩
    ·rename_i e _
     cases e
     exact ⟨fun _ n h=>(by simp [Tch.ls] at h),fun h=>(by cases h),fun n a b _ h=>(by simp [Tch.ls] at h)⟩
    ·rename_i e1 e2
     cases e1
     cases e2
     simp only [Bool.and_eq_true,Bool.or_eq_true,Bool.not_eq_true'] at hxy
     obtain ⟨⟨h1,h2⟩,h3⟩:=hxy
     refine ⟨fun hr n=> ?_,fun hr n=> ?_,fun n p q hp hq=> ?_⟩
     ·rcases h1 with h1 | h1
      ·rw [show a=true from hr] at h1;cases h1
      ·exact noWr_spec h1 n
     ·rcases h2 with h2 | h2
      ·rw [show b=true from hr] at h2;cases h2
      ·exact noWr_spec h2 n
     ·have h4:=List.all_eq_true.1 (List.all_eq_true.1 h3 _ hp) _ hq
      simp at h4
      exact h4
    ·cases hxy
 refine ⟨some,hid,fun i j hij hj hn hr=> ?_,fun i j hij hj hn hr=> ?_,fun i j hij hj hn=> ?_,low,fun i j hij hj hn n b hm hc=> ?_⟩
 ·obtain ⟨h1,h2,_⟩:=parts i j hij hj hn
  refine ⟨(ap h1 (some i (by omega)) (some j hj)).1 hr, ?_⟩
  rcases h2 with h2 | h2
  ·rw [hr] at h2;cases h2
  ·rw [hid j hj] at h2;exact h2
 ·exact (ap (parts i j hij hj hn).1 (some i (by omega)) (some j hj)).2.1 hr
 ·exact (ap (parts i j hij hj hn).1 (some i (by omega)) (some j hj)).2.2
 ·have:=(parts i j hij hj hn).2.2 _ hm
  rw [hid i (by omega)] at this
  exact this hc
end
end Go.V
namespace Go.V
open Go Go.RowKit
section
variable {R : Type} {P : Program} {B0 : Nat → Prop} {w0 : World} {F : Fr} {ro : Option Nat} {ops : Array Oper} {m : Nat} {c : Nat → List Nat} {Ts : Nat → List AV} {Hs : Nat → Hp} {tcs : Nat → Tch × Nat × Nat}
open Classical in
noncomputable def hyb (Hs:Nat→Hp) (tcs:Nat→Tch×Nat×Nat) (b:Nat→Bool):Nat→Hf
 | 0=>fun n=>(Hs 0)[n]?
 | j+1=>fun n=>if b j=true∧Wr Hs tcs j n then (Hs (j+1))[n]? else hyb Hs tcs b j n
theorem not_wr (h:Run P ops m Ts Hs tcs) (ha:Apart m c Hs tcs) {j:Nat} (hj:j < m) {n:Nat} (hn:¬ Wr Hs tcs j n):(Hs (j+1))[n]? =(Hs j)[n]? :=by
 obtain ⟨o,v,_,_,lo,h1⟩:=h.step j hj
 obtain ⟨hl,_,_,h2⟩:=h1
 by_cases hlt:n < (Hs j).length
 ·rcases h2 with ⟨_,_,_,h3⟩ | ⟨_,_,h3,_⟩
  ·have h4:=h3 rfl (fun _=>False) default
   unfold HeadDoes at h4
   obtain ⟨_,h4⟩:=h4
   have hs:=ha.some j hj
   cases htc:(tcs j).1 with
   | all=>rw [htc] at hs;cases hs
   | some rd l=>
    rw [htc] at h4
    exact h4.1 n hlt (fun hm=>hn (.inl (by rw [htc];exact hm)))
  ·rw [h3]
 ·have:¬ n < (Hs (j+1)).length:=fun h=>hn (.inr ⟨by omega,h⟩)
  rw [List.getElem?_eq_none (by omega),List.getElem?_eq_none (by omega)]
theorem hyb_at (h:Run P ops m Ts Hs tcs) (ha:Apart m c Hs tcs) {b:Nat→Bool} {n i:Nat} (hi:i≤m) (h1:∀ j,j < i→Wr Hs tcs j n→b j=true) (h2:∀ j,i≤j→j < m→Wr Hs tcs j n→b j=false):hyb Hs tcs b m n=(Hs i)[n]? :=by
 have e1:∀ i',i'≤i→hyb Hs tcs b i' n=(Hs i')[n]? :=by
  intro i'
  induction i' with
  | zero=>intro _;rfl
  | succ i' ih=>
   intro hle
   unfold hyb
   by_cases hw:Wr Hs tcs i' n
   ·rw [if_pos ⟨h1 i' (by omega) hw,hw⟩]
   ·rw [if_neg (fun hc=>hw hc.2),ih (by omega),not_wr h ha (by omega) hw]
 have e2:∀ i',i≤i'→i'≤m→hyb Hs tcs b i' n=(Hs i)[n]? :=by
  intro i'
  induction i' with
  | zero=>intro h3 _;rw [show i=0 by omega];rfl
  | succ i' ih=>
   intro h3 h4
   by_cases hii:i=i'+1
   ·rw [hii];exact hii ▸ e1 i (Nat.le_refl _)
   ·unfold hyb
    rw [if_neg (fun hc=>by rw [h2 i' (by omega) (by omega) hc.2] at hc;cases hc.1)]
    exact ih (by omega) (by omega)
 exact e2 m hi (Nat.le_refl _)
theorem hyb_not {b b':Nat→Bool} {i:Nat} (hb:∀ j,j≠i→b' j=b j) {n:Nat} (hn:¬ Wr Hs tcs i n):∀ j,hyb Hs tcs b' j n=hyb Hs tcs b j n
 | 0=>rfl
 | j+1=>by
  unfold hyb
  by_cases hj:j=i
  ·subst hj
   rw [if_neg (fun hc=>hn hc.2),if_neg (fun hc=>hn hc.2)]
   exact hyb_not hb hn j
  ·rw [hb j hj,hyb_not hb hn j]
def Mid (P:Program) (B0:Nat→Prop) (w0:World) (F:Fr) (ops:Array Oper) (m:Nat) (Ts:Nat→List AV) (Hs:Nat→Hp) (tcs:Nat→Tch×Nat×Nat) (b:Nat→Bool) (a:Act) (w:World):Prop:=
 Marks F.w.heap.size w a.defers∧∃ D α,Ok P B0 w0 D α (hyb Hs tcs b m) w∧(∀ n,D n→n < (Hs 0).length∨∃ j,j < m∧b j=true∧(Hs j).length≤n∧n < (Hs (j+1)).length)∧a.tmps.size=(Ts 0).length∧
  (∀ t,t < (Ts 0).length→∃ x v,a.tmps[t]? =some x∧v.Rel P α (Own B0 D α (hyb Hs tcs b m)) w D x∧((∃ j,j < m∧b j=true∧dstOf ops j=some t∧(Ts m)[t]? =some v)∨((∀ j,j < m→b j=true→dstOf ops j≠some t)∧(Ts 0)[t]? =some v)))∧
  Goes F.D D F.α α F.C (OwnD D α (hyb Hs tcs b m)) F.w w∧∀ i,D i→i < F.n→F.D i
theorem hyb_none {b:Nat→Bool} (hb:∀ j,b j=false):∀ j,hyb Hs tcs b j=((Hs 0)[·]?)
 | 0=>rfl
 | j+1=>by
  funext n
  unfold hyb
  rw [if_neg (fun hc=>by rw [hb j] at hc;cases hc.1),hyb_none hb j]
theorem mid_start {a:Act} {w:World} (hs:Sim P B0 w0 F (Ts 0) ((Hs 0)[·]?) a w) {b:Nat→Bool} (hb:∀ j,b j=false):Mid P B0 w0 F ops m Ts Hs tcs b a w:=by
 obtain ⟨hM,D,α,hO,hT,hF,hN⟩:=hs
 unfold Mid
 rw [hyb_none hb m]
 refine ⟨hM,D,α,hO,fun n hn=> .inl (by obtain ⟨k,hk⟩:=hO.lt n hn;exact (List.getElem?_eq_some_iff.1 hk).1), ?_,fun t ht=> ?_,hF,hN⟩
 ·have:=RelL.len hT
  rwa [Array.length_toList] at this
 ·obtain ⟨x,h1,h2⟩:=RelL.get hT (List.getElem?_eq_getElem ht)
  rw [Array.getElem?_toList] at h1
  exact ⟨x,_,h1,h2, .inr ⟨fun j _ h=>absurd ((hb j).symm.trans h) (by decide),List.getElem?_eq_getElem ht⟩⟩
theorem mid_look (hc:Order ops m c) (hh:Run P ops m Ts Hs tcs) {D:Nat→Prop} {α:Nat→Nat×Nat} {B:Nat→Prop} {b:Nat→Bool} {a:Act} {w:World} (hsz:a.tmps.size=(Ts 0).length)
  (hT:∀ t,t < (Ts 0).length→∃ x v,a.tmps[t]? =some x∧v.Rel P α B w D x∧((∃ j,j < m∧b j=true∧dstOf ops j=some t∧(Ts m)[t]? =some v)∨((∀ j,j < m→b j=true→dstOf ops j≠some t)∧(Ts 0)[t]? =some v)))
  {i:Nat} (hi:i < m) {o:Oper} (ho:ops[i]? =some o) (hup:∀ j ∈ c i,b j=true) (hdn:∀ j,j < m→b j=true→i ∉ c j) (d:Nat) (hd:d ∈ o.looksAt ops):SlotRel P α B w D (Ts i) a.tmps d:=by
 obtain ⟨o1,ho1,hhead⟩:=hc.head i hi
 rw [ho] at ho1
 cases ho1
 have hwr:∀ j,j < m→dstOf ops j=some d→j ∈ c i∨i ∈ c j:=by
  intro j hj hdj
  obtain ⟨o',ho',_,h2⟩:=hhead j hj
  refine h2 d ?_ hd
  unfold dstOf at hdj
  rw [ho'] at hdj
  exact hdj
 have hilt:i < ops.size:=Nat.lt_of_lt_of_le hi hc.le
 by_cases ht:d < (Ts 0).length
 ·obtain ⟨x,v,h1,h2,h3⟩:=hT d ht
  right
  refine ⟨v,x, ?_,h1,h2⟩
  rcases h3 with ⟨j,hj,hbj,hdj,hv⟩ | ⟨hn,hv⟩
  ·have hji:=hc.lt i hilt j ((hwr j hj hdj).resolve_right (hdn j hj hbj))
   rw [← hh.seg m (by omega) (Nat.le_refl _) (i:=i) (t:=d) ?_]
   ·exact hv
   ·intro j' h4 h5 h6
    obtain ⟨o1,ho1,hn1⟩:=hc.head j hj
    obtain ⟨o2,ho2,h7,_⟩:=hn1 j' h5
    unfold dstOf at h6 hdj
    rw [ho1] at hdj
    rw [ho2] at h6
    have hdj':o1.dst=some d:=hdj
    have h6':o2.dst=some d:=h6
    rcases h7 with h7 | h7 | h7
    ·omega
    ·rw [hdj'] at h7;cases h7
    ·exact h7 (hdj'.trans h6'.symm)
  ·rw [hh.seg i (Nat.zero_le _) (by omega) (i:=0) (t:=d) ?_]
   ·exact hv
   ·intro j _ h5 h6
    rcases hwr j (by omega) h6 with h7 | h7
    ·exact hn j (by omega) (hup j h7) h6
    ·have:=hc.lt j (by omega) i h7
     omega
 ·left
  exact ⟨List.getElem?_eq_none (by rw [hh.len i (by omega)];omega),Array.getElem?_eq_none (by omega)⟩
theorem mid_step (hw0:w0.heap.size≤F.w.heap.size) (hfn:F.n≤(Hs 0).length) (hc:Order ops m c) (hh:Run P ops m Ts Hs tcs) (ha:Apart m c Hs tcs) {b b':Nat→Bool} {a:Act} {w:World} (hm:Mid P B0 w0 F ops m Ts Hs tcs b a w) {i:Nat} (hi:i < m) (hup:∀ j ∈ c i,b j=true) (hbi:b i=false) (hdn:∀ j,j < m→b j=true→i ∉ c j)
  (hb':∀ j,b' j=if j=i then true else b j) {Q:Exit→Act→World→Prop} {K:Act→World→Prop} (hK:∀ a w,Mid P B0 w0 F ops m Ts Hs tcs b' a w→K a w):wpOpIn (W ro) 0 P ops Q i K a w:=by
 obtain ⟨hM,D,α,hO,hL,hsz,hT,hF,hN⟩:=hm
 obtain ⟨o,v,ho,e,lo,hst⟩:=hh.step i hi
 obtain ⟨hle,hkeep,hgk,hst⟩:=hst
 have hlook:=fun d hd=>mid_look hc hh hsz hT hi ho hup hdn d hd
 have hops:∀ x ∈ o.op.operands,(evA (Ts i) x).Rel P α (Own B0 D α (hyb Hs tcs b m)) w D (a.eval x):=by
  intro x hx
  refine eval_rel x (fun d hd=>hlook d ?_)
  subst hd
  unfold Oper.looksAt
  exact List.mem_append_left _ (List.mem_filterMap.2 ⟨.tmp d,Array.mem_toList_iff.2 hx,rfl⟩)
 have hy:Region.wanted o (yielded ops a.tmps)=Region.wanted o (yieldedA (Ts i) ops):=by
  unfold Region.wanted
  cases hg:o.guard with
  | none=>rfl
  | some jw=>
   obtain ⟨j,want⟩:=jw
   simp only
   rw [yielded_eq (fun d hd=>hlook d ?_) (fun d hd=>hgk j want hg d hd)]
   unfold Oper.looksAt
   rw [hg]
   refine List.mem_append_right _ ?_
   simp only [hd,Option.toList,List.mem_singleton]
 have hdi:dstOf ops i=o.dst:=by unfold dstOf;rw [ho];rfl
 have honly:∀ t,o.dst=some t→∀ j,j < m→j≠i→dstOf ops j≠some t:=by
  intro t ht j hj hji hdj
  obtain ⟨o1,ho1,hn1⟩:=hc.head i hi
  rw [ho] at ho1
  cases ho1
  obtain ⟨o2,ho2,h7,_⟩:=hn1 j hj
  unfold dstOf at hdj
  rw [ho2] at hdj
  have hdj':o2.dst=some t:=hdj
  rcases h7 with h7 | h7 | h7
  ·exact hji h7.symm
  ·rw [ht] at h7;cases h7
  ·exact h7 (ht.trans hdj'.symm)
 have keep:∀ j,b j=true→b' j=true:=fun j h=>by rw [hb' j];by_cases hj:j=i <;> simp [hj,h]
 have hbo:∀ j,j≠i→b' j=b j:=fun j hj=>by rw [hb' j,if_neg hj]
 have wrAt:∀ n j,Wr Hs tcs j n→((∃ a,(n,a) ∈ (tcs i).1.ls)∧n < (Hs i).length∨Wr Hs tcs i n)→j < m→j≠i→(j < i→b j=true)∧(i < j→b j=false):=by
  intro n j hwj hti hj hji
  constructor
  ·intro hlt
   cases hbj:b j with
   | true=>rfl
   | false=>
    have hnc:j ∉ c i:=fun hc'=>by rw [hup j hc'] at hbj;cases hbj
    exfalso
    rcases hti with ⟨⟨a,hna⟩,hnl⟩ | hwi
    ·rcases hwj with hwj | hwj
     ·have:=ha.both j i hlt hi hnc n true a hwj hna;cases this.1
     ·exact ha.new j i hlt hi hnc n a hna hwj
    ·rcases hwi with hwi | hwi
     ·rcases hwj with hwj | hwj
      ·have:=ha.both j i hlt hi hnc n true true hwj hwi;cases this.1
      ·exact ha.new j i hlt hi hnc n true hwi hwj
     ·rcases hwj with hwj | hwj
      ·-- j touches a block that i makes:j's touches lie below
       have h1:=hh.mono i (show j+1≤i by omega) (by omega)
       have h2:=hh.mono (j+1) (show j≤j+1 by omega) (by omega)
       obtain ⟨oj,vj,hoj,_,loj,hoj2⟩:=hh.step j hj
       exact absurd (ha.low j hj n true hwj) (by omega)
      ·have h1:=hh.mono i (show j+1≤i by omega) (by omega)
       omega
  ·intro hlt
   cases hbj:b j with
   | false=>rfl
   | true=>
    have hnc:=hdn j hj hbj
    exfalso
    rcases hti with ⟨⟨a,hna⟩,hnl⟩ | hwi
    ·rcases hwj with hwj | hwj
     ·have:=ha.both i j hlt hj hnc n a true hna hwj;cases this.2
     ·have h1:=hh.mono j (show i≤j by omega) (by omega);omega
    ·rcases hwi with hwi | hwi
     ·rcases hwj with hwj | hwj
      ·have:=ha.both i j hlt hj hnc n true true hwi hwj;cases this.1
      ·have h1:=hh.mono j (show i≤j by omega) (by omega)
       have:=ha.low i hi n true hwi
       omega
     ·rcases hwj with hwj | hwj
      ·exact ha.new i j hlt hj hnc n true hwj hwi
      ·have h1:=hh.mono j (show i+1≤j by omega) (by omega);omega
 have hb1:b' i=true:=by rw [hb' i,if_pos rfl]
 have notD:∀ n,D n→(Hs i).length≤n→n < (Hs (i+1)).length→False:=by
  intro n hn h1 h2
  rcases hL n hn with h3 | ⟨j,hj,hbj,h3,h4⟩
  ·have:=hh.mono i (Nat.zero_le i) (by omega);omega
  ·have hji:j≠i:=fun h=>by rw [h,hbi] at hbj;cases hbj
   rcases Nat.lt_or_gt_of_ne hji with h5 | h5
   ·have:=hh.mono i (show j+1≤i by omega) (by omega);omega
   ·have:=hh.mono j (show i+1≤j by omega) (by omega);omega
 have after:∀ (D':Nat→Prop) (α':Nat→Nat×Nat) (w':World) (x:Value),Ok P B0 w0 D' α' (hyb Hs tcs b' m) w'→(∀ n,D' n→D n∨((Hs i).length≤n∧n < (Hs (i+1)).length))→Goes D D' α α' (OwnD D α (hyb Hs tcs b m)) (OwnD D' α' (hyb Hs tcs b' m)) w w'→v.Rel P α' (Own B0 D' α' (hyb Hs tcs b' m)) w' D' x→
   K (a.put o.dst x) w':=by
  intro D' α' w' x hO' hL' hg hv
  have hd:(a.put o.dst x).defers=a.defers:=by cases o.dst <;> rfl
  have hmono0:=hh.mono i (Nat.zero_le i) (by omega)
  refine hK _ _ ⟨by rw [hd];exact hM.mono hO hO' hg,D',α',hO', ?_, ?_, ?_,hF.trans hg,fun n hn hlt=>(hL' n hn).elim (fun h=>hN n h hlt) (fun h=>by omega)⟩
  ·intro n hn
   rcases hL' n hn with h1 | h1
   ·rcases hL n h1 with h2 | ⟨j,h2,h3,h4⟩
    ·exact .inl h2
    ·exact .inr ⟨j,h2,keep j h3,h4⟩
   ·exact .inr ⟨i,hi,hb1,h1⟩
  ·cases hd:o.dst with
   | none=>exact hsz
   | some d=>show (a.tmps.setIfInBounds d x).size=_;rw [Array.size_setIfInBounds];exact hsz
  ·intro t ht
   by_cases hdt:o.dst=some t
   ·refine ⟨x,v, ?_,hv, .inl ⟨i,hi,hb1,hdi.trans hdt, ?_⟩⟩
    ·rw [hdt]
     show (a.tmps.setIfInBounds t x)[t]? =some x
     rw [Array.getElem?_setIfInBounds_self_of_lt (by omega)]
    ·rw [hh.seg m (by omega) (Nat.le_refl _) (i:=i+1) (t:=t) (fun j h4 h5=>honly t hdt j h5 (by omega)),e,put_set,hdt]
     exact List.getElem?_set_self (by rw [hh.len i (by omega)];exact ht)
   ·obtain ⟨y,u,h1,h2,h3⟩:=hT t ht
    refine ⟨y,u, ?_,AV.Rel.mono _ _ (hg.keeps B0) h2, ?_⟩
    ·cases hd:o.dst with
     | none=>exact h1
     | some d=>
      show (a.tmps.setIfInBounds d x)[t]? =some y
      rw [Array.getElem?_setIfInBounds_ne (fun h=>hdt (by rw [hd,h]))]
      exact h1
    ·rcases h3 with ⟨j,h4,h5,h6⟩ | ⟨h4,h5⟩
     ·exact .inl ⟨j,h4,keep j h5,h6⟩
     ·refine .inr ⟨fun j h6 h7=> ?_,h5⟩
      rw [hb' j] at h7
      split at h7
      ·rename_i hji;rw [hji,hdi];exact hdt
      ·exact h4 j h6 h7
 refine wpOp_of ho (fun hw=> ?_) (fun hw=> ?_)
 ·rw [hy] at hw
  rcases hst with ⟨_,htc,_,h1⟩ | ⟨h1,_⟩
  ·have h1:=h1 rfl B0 w0
   have hs:=ha.some i hi
   cases htc:(tcs i).1 with
   | all=>rw [htc] at hs;cases hs
   | some rd l=>
    have hls:(tcs i).1.ls=l:=by rw [htc];rfl
    have hrd:(tcs i).1.rd=rd:=by rw [htc];rfl
    rw [htc] at h1
    obtain ⟨_,_,h1⟩:=h1
    have hnx:Nxt (hyb Hs tcs b m) (Hs i) (Hs (i+1)) l=hyb Hs tcs b' m:=by
     funext n
     unfold Nxt
     by_cases hwi:Wr Hs tcs i n
     ·rw [if_pos (by rw [← hls];exact hwi)]
      refine (hyb_at hh ha (show i+1≤m by omega) (fun j hj hwj=> ?_) (fun j hj hjm hwj=> ?_)).symm
      ·by_cases hji:j=i
       ·rw [hji];exact hb1
       ·exact keep j ((wrAt n j hwj (.inr hwi) (by omega) hji).1 (by omega))
      ·rw [hbo j (by omega)]
       exact (wrAt n j hwj (.inr hwi) hjm (by omega)).2 (by omega)
     ·rw [if_neg (by rw [← hls];exact hwi)]
      exact (hyb_not hbo hwi m).symm
    refine h1 (hyb Hs tcs b m) (fun n hn hlt=> ?_) ro D α a w _ _ hO ⟨fun n hn hor hD=> ?_,fun hr n hD=> ?_⟩ hops (fun D' α' w' x hO' hL' hg hv=>after D' α' w' x (hnx ▸ hO') hL' (hnx ▸ hg) (hnx ▸ hv))
    ·rw [← hls] at hn
     refine hyb_at hh ha (Nat.le_of_lt hi) (fun j hj hwj=>(wrAt n j hwj (.inl ⟨hn,hlt⟩) (by omega) (by omega)).1 hj) (fun j hj hjm hwj=> ?_)
     by_cases hji:j=i
     ·rw [hji];exact hbi
     ·exact (wrAt n j hwj (.inl ⟨hn,hlt⟩) hjm hji).2 (by omega)
    ·rcases hor with hor | hor
     ·exact notD n hD hn hor
     ·rcases hL n hD with h3 | ⟨j,hj,hbj,h3,h4⟩
      ·have:=hh.mono i (Nat.zero_le i) (by omega);omega
      ·have hji:j≠i:=fun h=>by rw [h,hbi] at hbj;cases hbj
       rcases Nat.lt_or_gt_of_ne hji with h5 | h5
       ·have:=hh.mono i (show j+1≤i by omega) (by omega);omega
       ·have:=(ha.rd1 i j h5 hj (hdn j hj hbj) (by rw [hrd];exact hor)).2;omega
    ·refine hyb_at hh ha (Nat.le_of_lt hi) (fun j hj hwj=> ?_) (fun j hj hjm hwj=> ?_)
     ·cases hbj:b j with
      | true=>rfl
      | false=>
       have hnc:j ∉ c i:=fun hc'=>by rw [hup j hc'] at hbj;cases hbj
       exfalso
       rcases hwj with hwj | hwj
       ·exact ha.rd2 j i hj hi hnc (by rw [hrd];exact hr) n hwj
       ·rcases hL n hD with h3 | ⟨j',hj',hbj',h3,h4⟩
        ·have:=hh.mono j (Nat.zero_le j) (by omega);omega
        ·have hjj:j'≠j:=fun h=>by rw [h,hbj] at hbj';cases hbj'
         rcases Nat.lt_or_gt_of_ne hjj with h5 | h5
         ·have:=hh.mono j (show j'+1≤j by omega) (by omega);omega
         ·have:=hh.mono j' (show j+1≤j' by omega) (by omega);omega
     ·cases hbj:b j with
      | false=>rfl
      | true=>
       exfalso
       have hji:j≠i:=fun h=>by rw [h,hbi] at hbj;cases hbj
       have h5:=ha.rd1 i j (by omega) hjm (hdn j hjm hbj) (by rw [hrd];exact hr)
       rcases hwj with hwj | hwj
       ·exact h5.1 n hwj
       ·omega
  ·rw [h1] at hw;cases hw
 ·rw [hy] at hw
  rcases hst with ⟨h1,_⟩ | ⟨_,rfl,hH,htc⟩
  ·rw [h1] at hw;cases hw
  ·have hno:∀ n,¬ Wr Hs tcs i n:=by
    rintro n (h1 | h1)
    ·rw [htc] at h1;simp [Tch.ls] at h1
    ·rw [hH] at h1;omega
   have hnx:hyb Hs tcs b m=hyb Hs tcs b' m:=by funext n;exact (hyb_not hbo (hno n) m).symm
   refine after D α w undef (hnx ▸ hO) (fun n hn=> .inl hn) (hnx ▸ Goes.refl _ _ _ _) rfl
theorem mid_end {b:Nat→Bool} {a:Act} {w:World} (hh:Run P ops m Ts Hs tcs) (ha:Apart m c Hs tcs) (hm:Mid P B0 w0 F ops m Ts Hs tcs b a w) (hb:∀ j,j < m→b j=true):Sim P B0 w0 F (Ts m) ((Hs m)[·]?) a w:=by
 obtain ⟨hM,D,α,hO,hL,hsz,hT,hF,hN⟩:=hm
 have hH:hyb Hs tcs b m=((Hs m)[·]?):=by
  funext n
  exact hyb_at hh ha (Nat.le_refl m) (fun j hj _=>hb j hj) (fun j h1 h2=>by omega)
 rw [hH] at hO hT hF
 refine ⟨hM,D,α,hO, ?_,hF,hN⟩
 refine RelL.of_get (by rw [Array.length_toList,hsz,hh.len m (Nat.le_refl _)]) (fun t v hv=> ?_)
 have ht:t < (Ts 0).length:=by rw [← hh.len m (Nat.le_refl _)];exact (List.getElem?_eq_some_iff.1 hv).1
 obtain ⟨x,u,h1,h2,h3⟩:=hT t ht
 rw [Array.getElem?_toList]
 rcases h3 with ⟨j,_,_,_,h4⟩ | ⟨h4,h5⟩
 ·rw [hv] at h4;cases h4;exact ⟨x,h1,h2⟩
 ·rw [← hh.seg m (Nat.zero_le _) (Nat.le_refl _) (i:=0) (fun j _ hj=>h4 j hj (hb j hj)),hv] at h5
  cases h5
  exact ⟨x,h1,h2⟩
end
end Go.V
namespace Go.V
open Go Go.RowKit
section
variable {R : Type} {P : Program} {ro : Option Nat} {ops : Array Oper} {m : Nat} {c : Nat → List Nat}
theorem phaseB {x:Cx R} (hx:CxOk x) (hP:x.P=P) (hc:Order ops m c):∀ (l:List (Bool×Oper)) (d:Nat) (T:List AV) (H:Hp) (tl:Tl) (k:Lk R) (r:R),d+l.length=ops.size→m≤d→(∀ (j:Nat) (o:Bool×Oper),l[j]? =some o→ops[d+j]? =some o.2)→execIx x ops l T H tl k=some r→
  ∃ T' H' ex,k T' H' (ex ++ tl)=some r∧H.length≤H'.length∧(x.lo≤H.length→∀ q,q < x.lo→H'[q]? =H[q]?)∧∀ (ro:Option Nat) (B0:Nat→Prop) (w0:World) (F:Fr) (Q:Exit→Act→World→Prop),w0.heap.size≤F.w.heap.size→F.n≤H.length→(∀ a' w',Sim P B0 w0 F T' (H'[·]?) a' w'→Q .normal a' w')→
   ∀ (listed:Array Bool) a w,listed.size=ops.size→(∀ j,j < ops.size→lb listed j=decide (j < d))→Sim P B0 w0 F T (H[·]?) a w→wpAnyIn (W ro) 0 P .any ops Q l.length listed a w
 | [],d,T,H,tl,k,r,hd,hmd,hidx,h=> ⟨T,H, [],h,Nat.le_refl _,fun _ _ _=>rfl,fun ro B0 w0 F Q _ _ hQ listed a w hsz hl hs=>by
   refine ⟨?_,hQ a w hs⟩
   cases hr:Region.ready .any ops listed with
   | nil=>rfl
   | cons i l=>
    obtain ⟨o,ho,h1,_⟩:=(ready_iff hsz i).1 (by rw [hr];exact List.mem_cons_self)
    have hi:=(Array.getElem?_eq_some_iff.1 ho).1
    rw [hl i hi,decide_eq_false_iff_not] at h1
    simp at hd
    omega⟩
 | o :: l,d,T,H,tl,k,r,hd,hmd,hidx,h=>by
  unfold execIx at h
  obtain ⟨v,H1,tc,h1,h2⟩:=exec_one hx hP h
  have hod:ops[d]? =some o.2:=hidx 0 o rfl
  rw [List.length_cons] at hd
  obtain ⟨T',H',ex,e1,e2,e3,e4⟩:=phaseB hx hP hc l (d+1) _ _ _ k r (by omega) (by omega) (fun j o' h4=>by have:=hidx (j+1) o' (by simpa using h4);rwa [show d+(j+1)=d+1+j by omega] at this) h1
  refine ⟨T',H',ex ++ [tc],by rw [List.append_assoc];exact e1,Nat.le_trans h2.1 e2,fun hlo q hq=>(e3 (Nat.le_trans hlo h2.1) q hq).trans (h2.2.1 hlo q hq),fun ro B0 w0 F Q hw0 hfn hQ listed a w hsz hl hs=> ?_⟩
  have hdn:d < ops.size:=by omega
  obtain ⟨od,hod',hed,_⟩:=hc.edge d hdn
  have hclosed:Closed ops (lb listed):=by
   intro j o ho hb e he
   have hj:=(Array.getElem?_eq_some_iff.1 ho).1
   obtain ⟨o',ho',h1,_⟩:=hc.edge j hj
   rw [ho] at ho'
   cases ho'
   have:=h1 e he
   rw [hl j hj,decide_eq_true_eq] at hb
   rw [hl e (by omega),decide_eq_true_eq]
   omega
  have hrd:d ∈ Region.ready .any ops listed:=(ready_iff hsz d).2 ⟨od,hod',by rw [hl d hdn];simp,fun e he=>(hl e (by have:=hed e he;omega)).trans (decide_eq_true (hed e he))⟩
  refine ⟨fun hr=>absurd (hr ▸ hrd) List.not_mem_nil,fun i hi=> ?_⟩
  obtain ⟨o2,ho,h1,h2'⟩:=(ready_iff hsz i).1 hi
  have hin:=(Array.getElem?_eq_some_iff.1 ho).1
  have hid:i=d:=by
   rw [hl i hin,decide_eq_false_iff_not] at h1
   rcases Nat.lt_or_ge d i with h3 | h3
   ·have h4:=hc.tail i hin (by omega) d h3
    have h5:=hc.up hclosed i hin (fun o' ho'=>by rw [ho] at ho';cases ho';exact h2') d h4
    rw [hl d hdn,decide_eq_true_eq] at h5
    omega
   ·omega
  subst hid
  refine one_wp hod h2 hw0 hfn hs (fun a' w' hs'=>e4 ro B0 w0 F Q hw0 (Nat.le_trans hfn h2.1) hQ _ a' w' (by rw [Array.size_setIfInBounds];exact hsz) (fun j hj=> ?_) hs')
  rw [lb_set (by omega),hl j hj]
  by_cases hji:j=i
  ·rw [if_pos hji];simp [hji]
  ·rw [if_neg hji];simp only [decide_eq_decide];omega
theorem left_pos {n:Nat} {b:Nat→Bool} {k:Nat} (h:left n b=k+1):∃ i,i < n∧b i=false∧∀ j,j < i→b j=true:=by
 have hex:∃ i,i < n∧b i=false:=by
  unfold left at h
  cases hf:(List.range n).filter (fun j=> !b j) with
  | nil=>rw [hf] at h;cases h
  | cons x r=>
   have hx:x ∈ (List.range n).filter fun j=> !b j:=by rw [hf];exact List.mem_cons_self
   rw [List.mem_filter,List.mem_range] at hx
   exact ⟨x,hx.1,by simpa using hx.2⟩
 have hmin:∀ k,(∃ i,i≤k∧i < n∧b i=false)→∃ i,i < n∧b i=false∧∀ j,j < i→b j=true:=by
  intro k
  induction k with
  | zero=>
   rintro ⟨i,hi,h1,h2⟩
   exact ⟨i,h1,h2,fun j hj=>by omega⟩
  | succ k ihk=>
   rintro ⟨i,hi,h1,h2⟩
   by_cases hlow:∃ j,j≤k∧j < n∧b j=false
   ·exact ihk hlow
   ·refine ⟨i,h1,h2,fun j hj=> ?_⟩
    cases hb:b j with
    | true=>rfl
    | false=>exact absurd ⟨j,by omega,by omega,hb⟩ hlow
 obtain ⟨i,h1,h2⟩:=hex
 exact hmin i ⟨i,Nat.le_refl _,h1,h2⟩
theorem left_zero {n:Nat} {b:Nat→Bool} (h:left n b=0):∀ j,j < n→b j=true:=by
 intro j hj
 cases hb:b j with
 | true=>rfl
 | false=>
  have:j ∈ (List.range n).filter fun j=> !b j:=List.mem_filter.2 ⟨List.mem_range.2 hj,by simp [hb]⟩
  unfold left at h
  rw [List.eq_nil_of_length_eq_zero h] at this
  cases this
variable {B0 : Nat → Prop} {w0 : World} {F : Fr} {Ts : Nat → List AV} {Hs : Nat → Hp} {tcs : Nat → Tch × Nat × Nat}
theorem phaseA (hc:Order ops m c) (hw0:w0.heap.size≤F.w.heap.size) (hfn:F.n≤(Hs 0).length) {Q:Exit→Act→World→Prop} (hh:Run P ops m Ts Hs tcs) (ha:Apart m c Hs tcs)
  (htail:∀ (listed:Array Bool) a w,listed.size=ops.size→(∀ j,j < ops.size→lb listed j=decide (j < m))→Sim P B0 w0 F (Ts m) ((Hs m)[·]?) a w→wpAnyIn (W ro) 0 P .any ops Q (ops.size - m) listed a w):
  ∀ (cnt:Nat) (listed:Array Bool) (a:Act) (w:World),left m (lb listed)=cnt→listed.size=ops.size→Closed ops (lb listed)→(∀ d,m≤d→lb listed d=false)→Mid P B0 w0 F ops m Ts Hs tcs (lb listed) a w→wpAnyIn (W ro) 0 P .any ops Q (cnt+(ops.size - m)) listed a w:=by
 intro cnt
 have hmn:=hc.le
 induction cnt with
 | zero=>
  intro listed a w hcnt hsz hcl hno hmid
  have hall:=left_zero hcnt
  rw [Nat.zero_add]
  refine htail listed a w hsz (fun j hj=> ?_) (mid_end hh ha hmid hall)
  by_cases h:j < m
  ·rw [hall j h];simp [h]
  ·rw [hno j (by omega)];simp [h]
 | succ cnt ih=>
  intro listed a w hcnt hsz hcl hno hmid
  obtain ⟨i0,hi0,hb0,hlow⟩:=left_pos hcnt
  rw [show cnt+1+(ops.size - m)=(cnt+(ops.size - m))+1 by omega]
  refine ⟨fun hr=> ?_,fun i hi=> ?_⟩
  ·exfalso
   obtain ⟨o,ho,he,_⟩:=hc.edge i0 (by omega)
   have:i0 ∈ Region.ready .any ops listed:=(ready_iff hsz i0).2 ⟨o,ho,hb0,fun e h=>hlow e (he e h)⟩
   rw [hr] at this
   cases this
  ·obtain ⟨o,ho,h1,h2⟩:=(ready_iff hsz i).1 hi
   have hin:=(Array.getElem?_eq_some_iff.1 ho).1
   have hup:=hc.up hcl i hin (fun o' ho'=>by rw [ho] at ho';cases ho';exact h2)
   have him:i < m:=by
    rcases Nat.lt_or_ge i m with h | h
    ·exact h
    ·have h5:=hup i0 (hc.tail i hin h i0 (by omega))
     rw [hb0] at h5
     cases h5
   have hset:=lb_set (listed:=listed) (i:=i) (by omega)
   have hdn:∀ j,j < m→lb listed j=true→i ∉ c j:=by
    intro j hj hbj hmem
    have:=hc.up hcl j (by omega) (fun o' ho' e he=>hcl j o' ho' hbj e he) i hmem
    rw [h1] at this
    cases this
   refine mid_step hw0 hfn hc hh ha hmid him hup h1 hdn hset (fun a' w' hmid'=> ?_)
   refine ih _ a' w' ?_ (by rw [Array.size_setIfInBounds];exact hsz) (closed_set hsz hcl ho h2) (fun d hd=> ?_) hmid'
   ·have:=left_set him h1 hset
    omega
   ·rw [hset d,if_neg (by omega)]
    exact hno d hd
theorem sim_drew {T:List AV} {h:Hf} {a:Act} {w:World} (hs:Sim P B0 w0 F T h a w):Sim P B0 w0 F T h a w.drew:=by
 obtain ⟨hM,D,α,hO,hT,hF,hN⟩:=hs
 have hb:Below w.heap.size w w.drew:=Below.drew (Below.refl _ _)
 obtain ⟨hO',hg⟩:=ok_grow hO hb
 exact ⟨hM.mono hO hO' hg,D,α,hO',RelL.mono _ _ (hg.keeps B0) hT,hF.trans hg,hN⟩
theorem exec_region {x:Cx R} (hx:CxOk x) (hP:x.P=P) (hmx:P.follows .mixedOrders=true) {draw:Bool} {T:List AV} {H:Hp} {k:Cn R} {r:R} (h:regionA x ops draw T H k=some r):
  ∃ T' H',k .normal T' H'=some r∧H.length≤H'.length∧(x.lo≤H.length→∀ q,q < x.lo→H'[q]? =H[q]?)∧∀ (ro:Option Nat) (B0:Nat→Prop) (w0:World) (F:Fr) (Q:Exit→Act→World→Prop) (id:Nat),w0.heap.size≤F.w.heap.size→F.n≤H.length→(∀ a' w',Sim P B0 w0 F T' (H'[·]?) a' w'→Q .normal a' w')→
   ∀ a w,Sim P B0 w0 F T (H[·]?) a w→(Code.region id ops draw).wpIn (W ro) 0 P Q a w:=by
 unfold regionA at h
 cases draw with
 | false=>
  simp only [cond] at h
  obtain ⟨T',H',ex,h1,h2,h3,h4⟩:=exec_ix hx hP (ops.toList.map fun o=>(false,o)) (List.range ops.size) T H [] _ r (by simp) (fun j i o hj ho=>by
   rw [List.getElem?_map,Option.map_eq_some_iff] at ho
   obtain ⟨o',ho',rfl⟩:=ho
   have hji:=List.getElem?_eq_some_iff.1 hj
   obtain ⟨hj1,hj2⟩:=hji
   rw [List.getElem_range] at hj2
   subst hj2
   rwa [Array.getElem?_toList] at ho') h
  exact ⟨T',H',h1,h2,h3,fun ro B0 w0 F Q id hw0 hfn hQ a w hs=>wpIn_region (h4 ro B0 w0 F Q hw0 hfn a w hs hQ)⟩
 | true=>
  simp only [Bool.cond_eq_ite,if_true] at h
  split at h
  ·rename_i hd
   have hc:=order_of hd
   have hmn:=hc.le
   have hfl:flagged ops=(flagged ops).take (headN ops) ++ (flagged ops).drop (headN ops):=(List.take_append_drop _ _).symm
   have hlen:(flagged ops).length=ops.size:=by unfold flagged;rw [List.length_map,List.length_zipIdx,Array.length_toList]
   have hget:∀ (j:Nat) (o:Bool×Oper),(flagged ops)[j]? =some o→ops[j]? =some o.2∧o.1=decide (j < headN ops):=by
    intro j o ho
    unfold flagged at ho
    rw [List.getElem?_map,Option.map_eq_some_iff] at ho
    obtain ⟨p,hp,rfl⟩:=ho
    rw [List.getElem?_zipIdx,Option.map_eq_some_iff] at hp
    obtain ⟨o',ho',rfl⟩:=hp
    rw [Array.getElem?_toList] at ho'
    exact ⟨ho',by simp⟩
   rw [hfl] at h
   obtain ⟨Ts,Hs,tcs,e1,e2,e3,e4⟩:=run_of hx hP ((flagged ops).drop (headN ops)) ((flagged ops).take (headN ops)) 0 T H [] _ r (fun j o ho=>by
    have hj:j < headN ops:=by
     have:=(List.getElem?_eq_some_iff.1 ho).1
     rw [List.length_take] at this
     omega
    rw [List.getElem?_take_of_lt hj] at ho
    obtain ⟨h1,h2⟩:=hget j o ho
    rw [Nat.zero_add]
    exact ⟨h1,by rw [h2];simpa using hj⟩) h
   have hl1:((flagged ops).take (headN ops)).length=headN ops:=by rw [List.length_take,hlen];omega
   rw [hl1,Nat.zero_add] at e4
   simp only [hl1,Nat.zero_add] at e3
   have hh:Run P ops (headN ops) Ts Hs tcs:= ⟨fun i hi=>by
    obtain ⟨o,v,k1,k2,k3⟩:=e3 i (Nat.zero_le _) hi
    exact ⟨o,v,k1,k2,x.lo,k3⟩⟩
   obtain ⟨T',H',ex,k1,k2,k3,k4⟩:=phaseB hx hP hc ((flagged ops).drop (headN ops)) (headN ops) _ _ _ _ r (by rw [List.length_drop,hlen];omega) (Nat.le_refl _) (fun j o ho=>by
    rw [List.getElem?_drop] at ho
    exact (hget _ o ho).1) e4
   split at k1
   ·rename_i htouch
    have hid:∀ i,i < headN ops→(tcs i).2=((Hs i).length,(Hs (i+1)).length):=by
     intro i hi
     obtain ⟨o,v,_,_,_,_,_,k⟩:=e3 i (Nat.zero_le _) hi
     rcases k with ⟨_,k,_⟩ | ⟨_,_,k5,k⟩
     ·exact k
     ·rw [k,k5]
    have ha:=apart_of (Hs:=Hs) (tcs:=tcs) (fun i hi=>by
     rw [List.append_nil,List.reverse_append,List.reverse_reverse,List.getElem?_append_left (by simpa using hi),List.getElem?_map,List.getElem?_range' hi]
     simp) hid htouch
    have hmono:=hh.mono (i:=0) (headN ops) (Nat.zero_le _) (Nat.le_refl _)
    have hkeep:x.lo≤H.length→∀ i,i≤headN ops→∀ q,q < x.lo→(Hs i)[q]? =H[q]? :=by
     intro hlo i
     induction i with
     | zero=>intro _ q _;rw [e2]
     | succ i ih=>
      intro hi q hq
      obtain ⟨o,v,_,_,_,k,_⟩:=e3 i (Nat.zero_le _) (by omega)
      refine (k ?_ q hq).trans (ih (by omega) q hq)
      have:=hh.mono (i:=0) i (Nat.zero_le _) (by omega)
      rw [e2] at this
      omega
    rw [e2] at hmono
    refine ⟨T',H',k1,Nat.le_trans hmono k2,fun hlo q hq=>(k3 (Nat.le_trans hlo hmono) q hq).trans (hkeep hlo _ (Nat.le_refl _) q hq),fun ro B0 w0 F Q id hw0 hfn hQ a w hs=> ?_⟩
    have hlb:∀ j,lb (Array.replicate ops.size false) j=false:=by
     intro j
     unfold lb
     rw [Array.getD_eq_getD_getElem?,Array.getElem?_replicate]
     split <;> rfl
    have hs':=sim_drew hs
    rw [← e1,← e2] at hs'
    have hmid:Mid P B0 w0 F ops (headN ops) Ts Hs tcs (lb (Array.replicate ops.size false)) a w.drew:=mid_start hs' hlb
    refine wpIn_region_any hmx ?_
    have hleft:left (headN ops) (lb (Array.replicate ops.size false))=headN ops:=by
     unfold left
     rw [List.filter_eq_self.2 (fun x _=>by rw [hlb x];rfl),List.length_range]
    have:=phaseA hc hw0 (by rw [e2];exact hfn) hh ha (fun listed a w h1 h2 h3=>by
     have:=k4 ro B0 w0 F Q hw0 (Nat.le_trans hfn hmono) hQ listed a w h1 h2 h3
     rwa [List.length_drop,hlen] at this) (headN ops) (Array.replicate ops.size false) a w.drew hleft (by simp) (fun d o _ hb=>by rw [hlb d] at hb;cases hb) (fun d _=>hlb d) hmid
    rwa [show headN ops+(ops.size - headN ops)=ops.size by omega] at this
   ·cases k1
  ·cases h
end
end Go.V
namespace Go.V
open Go Go.RowKit
section
variable {P : Program} {D D1 : Nat → Prop} {α α1 : Nat → Nat × Nat} {B B1 : Nat → Prop} {w : World} {ρ : Nat → Nat} {r : List Nat}
theorem renL_len (ρ:Nat→Nat):∀ l:List AV,(renL ρ l).length=l.length
 | []=>rfl
 | v :: l=>by simp [renL,renL_len ρ l]
theorem idx_spec:∀ {r:List Nat} {i:Nat},i ∈ r→r[idx r i]? =some i
 | [],i,h=>by simp at h
 | j :: l,i,h=>by
  unfold idx
  cases hj:(j==i) with
  | true=>rw [beq_iff_eq] at hj;subst hj;rfl
  | false=>
   have:j≠i:=by simpa using hj
   simp only [cond]
   rw [List.getElem?_cons_succ]
   exact idx_spec ((List.mem_cons.1 h).resolve_left (fun e=>this e.symm))
theorem nodup_spec:∀ {r:List Nat},nodupB r=true→∀ {i j k:Nat},r[i]? =some k→r[j]? =some k→i=j
 | [],_,i,j,k,h,_=>by simp at h
 | a :: l,hn,i,j,k,hi,hj=>by
  unfold nodupB at hn
  rw [Bool.and_eq_true,Bool.not_eq_true',← Bool.not_eq_true,List.contains_iff_mem] at hn
  cases i with
  | zero=>
   cases j with
   | zero=>rfl
   | succ j=>
    simp only [List.getElem?_cons_zero,Option.some.injEq] at hi
    rw [List.getElem?_cons_succ] at hj
    subst hi
    exact absurd (List.mem_of_getElem? hj) hn.1
  | succ i=>
   cases j with
   | zero=>
    simp only [List.getElem?_cons_zero,Option.some.injEq] at hj
    rw [List.getElem?_cons_succ] at hi
    subst hj
    exact absurd (List.mem_of_getElem? hi) hn.1
   | succ j=>
    rw [List.getElem?_cons_succ] at hi hj
    rw [nodup_spec hn.2 hi hj]
theorem renB_live (ρ:Nat→Nat) (b:Blk):(renB ρ b).isLive=b.isLive∧(renB ρ b).isFroz=b.isFroz:=by
 cases b with
 | row c ty st=>cases st <;> exact ⟨rfl,rfl⟩
 | loop r=>exact ⟨rfl,rfl⟩
theorem cont_ren_len (ρ:Nat→Nat) (c:Cont):(c.ren ρ).len=c.len:=by
 cases c with
 | cells l=>exact renL_len ρ l
 | _=>rfl
theorem cont_ren_rel (hρ:∀ i ∈ r,D i→D1 (ρ i)∧α1 (ρ i)=α i) (hB:∀ b,B1 b→B b) (c:Cont) (ys:List Value) (hi:∀ i ∈ c.ids,i ∈ r) (h:RelL P α B w c.avs D ys):RelL P α1 B1 w (c.ren ρ).avs D1 ys:=by
 have plain:∀ (l:List AV),(∀ v ∈ l,∃ y,v= .val y)→∀ ys,RelL P α B w l D ys→RelL P α1 B1 w l D1 ys:=by
  intro l
  induction l with
  | nil=>intro _ ys h;exact h
  | cons v l ih=>
   intro hl ys h
   obtain ⟨y,zs,rfl,h2,h3⟩:=h
   obtain ⟨u,rfl⟩:=hl v List.mem_cons_self
   exact ⟨y,zs,rfl,h2,ih (fun v hv=>hl v (List.mem_cons_of_mem _ hv)) zs h3⟩
 cases c with
 | cells l=>exact ren_relL hρ hB l ys hi h
 | ints k zs=>exact plain _ (fun v hv=>by obtain ⟨z,_,rfl⟩:=List.mem_map.1 hv;exact ⟨_,rfl⟩) ys h
 | vals vs=>exact plain _ (fun v hv=>by obtain ⟨z,_,rfl⟩:=List.mem_map.1 hv;exact ⟨_,rfl⟩) ys h
variable {B0 : Nat → Prop} {w0 : World} {F : Fr}
theorem mask_rel {keep:List Nat} {T:List AV} {ys:List Value} (h:RelL P α B w T D ys):RelL P α B w (maskA keep T) D ys:=by
 unfold maskA
 refine RelL.of_get (by rw [RelL.len h,List.length_mapIdx]) (fun i v hv=> ?_)
 rw [List.getElem?_mapIdx,Option.map_eq_some_iff] at hv
 obtain ⟨u,hu,rfl⟩:=hv
 obtain ⟨y,h1,h2⟩:=RelL.get h hu
 refine ⟨y,h1, ?_⟩
 cases keep.contains i with
 | true=>exact h2
 | false=>trivial
theorem sim_gcF {T:List AV} {H:Hp} (hok:gcOk r T H=true) (hF:∀ i,F.D i→r[i]? =some i) (hn:∀ i,i < F.n→r[i]? =some i) {a:Act} (h:Marks F.w.heap.size w a.defers∧∃ D α,Ok P B0 w0 D α (H[·]?) w∧RelL P α (Own B0 D α (H[·]?)) w T D a.tmps.toList∧Goes F.D D F.α α F.C (OwnD D α (H[·]?)) F.w w∧∀ i,D i→i < F.n→F.D i):Sim P B0 w0 F (renL (idx r) T) ((gcHeap r H)[·]?) a w:=by
 obtain ⟨hM,D,α,hO,hT,hG,hN⟩:=h
 unfold gcOk at hok
 simp only [Bool.and_eq_true,List.all_eq_true,List.contains_iff_mem] at hok
 obtain ⟨⟨hnd,hTi⟩,hHi⟩:=hok
 have hblk:∀ i ∈ r,∃ b,H[i]? =some b∧∀ j ∈ b.ids,j ∈ r:=by
  intro i hi
  have:=hHi i hi
  split at this
  ·rename_i b hb
   exact ⟨b,hb,fun j hj=>List.contains_iff_mem.1 (List.all_eq_true.1 this j hj)⟩
  ·cases this
 let D1:Nat→Prop:=fun j=>∃ i,r[j]? =some i∧D i
 let α1:Nat→Nat×Nat:=fun j=>α ((r[j]?).getD 0)
 have hα1:∀ {j i:Nat},r[j]? =some i→α1 j=α i:=by
  intro j i h
  show α ((r[j]?).getD 0)=α i
  rw [h]
  rfl
 have hget:∀ {j i:Nat},r[j]? =some i→∃ b,H[i]? =some b∧(∀ j ∈ b.ids,j ∈ r)∧(gcHeap r H)[j]? =some (renB (idx r) b):=by
  intro j i h
  obtain ⟨b,hb,h2⟩:=hblk i (List.mem_of_getElem? h)
  refine ⟨b,hb,h2, ?_⟩
  unfold gcHeap
  rw [List.getElem?_map,h]
  simp [hb]
 have hρ:∀ i ∈ r,D i→D1 (idx r i)∧α1 (idx r i)=α i:=fun i hi hD=> ⟨⟨i,idx_spec hi,hD⟩,hα1 (idx_spec hi)⟩
 have hown:∀ b,OwnD D1 α1 ((gcHeap r H)[·]?) b→OwnD D α (H[·]?) b:=by
  rintro b ⟨j,k, ⟨i,hi,hD⟩,h1,h2,h3⟩
  obtain ⟨kb,e1,_,e2⟩:=hget hi
  have h1':(gcHeap r H)[j]? =some k:=h1
  rw [e2] at h1'
  cases h1'
  rw [(renB_live _ _).1] at h2
  rw [hα1 hi] at h3
  exact ⟨i,kb,hD,e1,h2,h3⟩
 have hB:∀ b,Own B0 D1 α1 ((gcHeap r H)[·]?) b→Own B0 D α (H[·]?) b:=fun b h=>h.elim .inl (fun h=> .inr (hown b h))
 refine ⟨hM,D1,α1, ⟨?_,hO.below,hO.old,fun b hb hc=>hO.sep b hb (hown b hc), ?_, ?_, ?_, ?_⟩,ren_relL hρ hB T _ (fun i hi=>hTi i hi) hT, ⟨fun i hi=> ⟨i,hF i hi,hG.le i hi⟩,fun i hi=>(hα1 (hF i hi)).trans (hG.same i hi),fun b o h1 h2=> ⟨fun h=>(hG.block b o h1 h2).1 (hown b h),(hG.block b o h1 h2).2⟩⟩,fun i hd hi=>by
  obtain ⟨i1,h1,h2⟩:=hd
  rw [hn i hi] at h1
  cases h1
  exact hN i h2 hi⟩
 ·rintro j ⟨i,hi,hD⟩
  obtain ⟨b,_,_,e⟩:=hget hi
  exact ⟨_,e⟩
 ·rintro j ⟨i,hi,hD⟩
  rw [hα1 hi]
  exact hO.fresh i hD
 ·rintro i j k l ⟨i',hi,hDi⟩ ⟨j',hj,hDj⟩ h1 h2 h3 h4 h5
  obtain ⟨b1,e1,_,e2⟩:=hget hi
  obtain ⟨b2,e3,_,e4⟩:=hget hj
  have h1':(gcHeap r H)[i]? =some k:=h1
  have h2':(gcHeap r H)[j]? =some l:=h2
  rw [e2] at h1'
  rw [e4] at h2'
  cases h1'
  cases h2'
  rw [(renB_live _ _).1] at h3 h4
  rw [hα1 hi,hα1 hj] at h5
  have:=hO.inj i' j' b1 b2 hDi hDj e1 e3 h3 h4 h5
  subst this
  exact nodup_spec hnd hi hj
 ·rintro j k ⟨i,hi,hD⟩ h1 h2 hc
  obtain ⟨b1,e1,_,e2⟩:=hget hi
  have h1':(gcHeap r H)[j]? =some k:=h1
  rw [e2] at h1'
  cases h1'
  rw [(renB_live _ _).2] at h2
  rw [hα1 hi] at hc
  exact hO.frz i b1 hD e1 h2 (hB _ hc)
 ·rintro j k ⟨i,hi,hD⟩ h1
  obtain ⟨b1,e1,e3,e2⟩:=hget hi
  have h1':(gcHeap r H)[j]? =some k:=h1
  rw [e2] at h1'
  cases h1'
  rw [hα1 hi]
  have hb:=hO.blk i b1 hD e1
  cases b1 with
  | row c ty st=>
   cases st with
   | dead=>exact .inl rfl
   | live=>
    rcases hb with hb | ⟨cs,fr,h1,h2,h3,h4,h5⟩
    ·cases hb
    ·exact .inr ⟨cs,fr,h1,h2,h3,by rw [cont_ren_len];exact h4,by rw [cont_ren_len];exact cont_ren_rel hρ hB c _ (fun i hi=>e3 i hi) h5⟩
   | froz=>
    rcases hb with hb | ⟨cs,fr,h1,h2,h3,h4,h5⟩
    ·cases hb
    ·exact .inr ⟨cs,fr,h1,h2,h3,by rw [cont_ren_len];exact h4,by rw [cont_ren_len];exact cont_ren_rel hρ hB c _ (fun i hi=>e3 i hi) h5⟩
  | loop rc=>
   obtain ⟨L,h1,h2,h3,h4,h5,h6⟩:=hb
   exact ⟨L,h1,h2,h3,h4,h5,ren_relL hρ hB rc.T _ (fun i hi=>e3 i hi) h6⟩
theorem sim_gc {T:List AV} {H:Hp} (hok:gcOk r T H=true) (hF0:∀ i,¬ F.D i) (hn0:F.n=0) {a:Act} (h:Marks F.w.heap.size w a.defers∧∃ D α,Ok P B0 w0 D α (H[·]?) w∧RelL P α (Own B0 D α (H[·]?)) w T D a.tmps.toList∧Goes F.D D F.α α F.C (OwnD D α (H[·]?)) F.w w∧∀ i,D i→i < F.n→F.D i):Sim P B0 w0 F (renL (idx r) T) ((gcHeap r H)[·]?) a w:=
 sim_gcF hok (fun i hi=>absurd hi (hF0 i)) (fun i hi=>by omega) h
theorem maskB_live (keep:List Nat) (b:Blk):(maskB keep b).isLive=b.isLive∧(maskB keep b).isFroz=b.isFroz:=by cases b <;> exact ⟨rfl,rfl⟩
theorem maskH_get (keep:List Nat) (H:Hp) (i:Nat):(maskH keep H)[i]? =(H[i]?).map (maskB keep):=List.getElem?_map
theorem maskH_own (keep:List Nat) (H:Hp) (D:Nat→Prop) (α:Nat→Nat×Nat):OwnD D α ((maskH keep H)[·]?)=OwnD D α (H[·]?):=by
 funext b
 refine propext ⟨?_, ?_⟩
 ·rintro ⟨i,k,h1,h2,h3,h4⟩
  have h2:(maskH keep H)[i]? =some k:=h2
  rw [maskH_get,Option.map_eq_some_iff] at h2
  obtain ⟨k',h5,rfl⟩:=h2
  rw [(maskB_live keep k').1] at h3
  exact ⟨i,k',h1,h5,h3,h4⟩
 ·rintro ⟨i,k,h1,h2,h3,h4⟩
  have h2:H[i]? =some k:=h2
  exact ⟨i,maskB keep k,h1,by show (maskH keep H)[i]? =_;rw [maskH_get,h2];rfl,by rw [(maskB_live keep k).1];exact h3,h4⟩
theorem sim_mask {keep:List Nat} {T:List AV} {H:Hp} {a:Act} (h:Sim P B0 w0 F T (H[·]?) a w):Sim P B0 w0 F T ((maskH keep H)[·]?) a w:=by
 obtain ⟨hM,D,α,hO,hT,hG,hN⟩:=h
 have e1:=maskH_own keep H D α
 have e2:Own B0 D α ((maskH keep H)[·]?)=Own B0 D α (H[·]?):=by unfold Own;rw [e1]
 have back:∀ {i:Nat} {k:Blk},((maskH keep H)[·]?) i=some k→∃ k',H[i]? =some k'∧k=maskB keep k':=by
  intro i k h
  have h:(maskH keep H)[i]? =some k:=h
  rw [maskH_get,Option.map_eq_some_iff] at h
  obtain ⟨k',h5,rfl⟩:=h
  exact ⟨k',h5,rfl⟩
 refine ⟨hM,D,α, ⟨?_,hO.below,hO.old,by rw [e1];exact hO.sep,hO.fresh, ?_, ?_, ?_⟩,by rw [e2];exact hT,by rw [e1];exact hG,hN⟩
 ·intro i hi
  obtain ⟨k,hk⟩:=hO.lt i hi
  have hk:H[i]? =some k:=hk
  exact ⟨maskB keep k,by show (maskH keep H)[i]? =_;rw [maskH_get,hk];rfl⟩
 ·intro i j k l hi hj h1 h2 h3 h4 h5
  obtain ⟨k',g1,rfl⟩:=back h1
  obtain ⟨l',g2,rfl⟩:=back h2
  rw [(maskB_live _ _).1] at h3 h4
  exact hO.inj i j k' l' hi hj g1 g2 h3 h4 h5
 ·intro i k hi h1 h2
  obtain ⟨k',g1,rfl⟩:=back h1
  rw [(maskB_live _ _).2] at h2
  rw [e2]
  exact hO.frz i k' hi g1 h2
 ·intro i k hi h1
  obtain ⟨k',g1,rfl⟩:=back h1
  rw [e2]
  have hb:=hO.blk i k' hi g1
  cases k' with
  | row c ty st=>exact hb
  | loop r=>
   obtain ⟨L,q1,q2,q3,q4,q5,q6⟩:=hb
   exact ⟨L,q1,q2,q3,q4,q5,mask_rel q6⟩
theorem front_at {fb:Nat} {r:List Nat} (h:frontOk fb r=true):∀ i,i < fb→r[i]? =some i:=by
 intro i hi
 have:=List.all_eq_true.1 h i (List.mem_range.2 hi)
 split at this
 ·rename_i j hj
  rw [beq_iff_eq] at this
  subst this
  exact hj
 ·cases this
theorem sim_gcm {fb:Nat} {keep:List Nat} {T:List AV} {H:Hp} (hok:gcOk r (maskA keep T) (maskH keep H)=true) (hfr:frontOk fb r=true) (hfn:F.n≤fb) (hFD:∀ i,F.D i→i < fb) {a:Act} (h:Sim P B0 w0 F T (H[·]?) a w):Sim P B0 w0 F (renL (idx r) (maskA keep T)) ((gcHeap r (maskH keep H))[·]?) a w:=by
 obtain ⟨hM,D,α,hO,hT,hG,hN⟩:=sim_mask (keep:=keep) h
 exact sim_gcF hok (fun i hi=>front_at hfr i (hFD i hi)) (fun i hi=>front_at hfr i (by omega)) ⟨hM,D,α,hO,mask_rel hT,hG,hN⟩
end
section
variable {Fn : Fence} {n : Nat} {P : Program} {Q : Exit → Act → World → Prop} {a : Act} {w : World}
theorem stepR_scope {b:Frame} {k:List Item} {cs:List Frame} {c:Code} :step P (lone (b.atR a (.code (.scope c) :: k)) cs w)= .next (lone (b.atR a (.code c :: .inScope c :: k)) cs w):=
 step_lone_go (by simp [stepG,stepG.exec,Frame.atR])
theorem stepR_inScope {b:Frame} {k:List Item} {cs:List Frame} {c:Code} :step P (lone (b.atR a (.inScope c :: k)) cs w)= .next (lone (b.atR a k) cs w):=
 step_lone_go (by simp [stepG,stepG.exec,Frame.atR])
theorem wpIn_scope {c:Code} (h:c.wpIn Fn n P (Exit.noGoto Q) a w):(Code.scope c).wpIn Fn n P Q a w:=by
 intro b k cs hro hb hr
 have h0:(lone (b.atR a (.code (.scope c) :: k)) cs w).fenced P Fn:=fenced_calm hb hr rfl
 obtain ⟨e,a₁,w₁,hq,harr⟩:=h b (.inScope c :: k) cs hro hb hr
 have hx:∀ id,exitTo id (.inScope c :: k)=exitTo id k:=fun id=>by simp [exitTo]
 cases e with
 | normal=>exact ⟨.normal,a₁,w₁,hq, .head h0 stepR_scope (StepsIn.trans harr (.one (fenced_calm hb hr rfl) stepR_inScope))⟩
 | exit id=>
  exact ⟨.exit id,a₁,w₁,hq,fun k' hk=> .head h0 stepR_scope (harr.1 k' (by rw [hx];exact hk)),
   fun hr' hk=>let ⟨k₁,h1,h2⟩:=harr.2 hr' (by rw [hx];exact hk); ⟨k₁,h1, .head h0 stepR_scope h2⟩⟩
 | goto l=>exact hq.elim
 | ret=>exact ⟨_,a₁,w₁,hq, .of_steps (.one h0 stepR_scope) harr⟩
 | panic ch=>exact ⟨_,a₁,w₁,hq, .of_steps (.one h0 stepR_scope) harr⟩
 | outgrown=>exact ⟨_,a₁,w₁,hq, .of_steps (.one h0 stepR_scope) harr⟩
theorem least {p:Nat→Prop} :∀ n,p n→∃ n,p n∧∀ m,m < n→¬ p m:=by
 intro n
 induction n using Nat.strongRecOn with
 | _ n ih=>
  intro hn
  by_cases h:∃ m,m < n∧p m
  ·obtain ⟨m,hm,hp⟩:=h
   exact ih m hm hp
  ·exact ⟨n,hn,fun m hm hp=>h ⟨m,hm,hp⟩⟩
theorem wpIn_loop_n {body:Code} (J:Nat→Act→World→Prop) (round:∀ n' a w,J n' a w→body.wpIn Fn n P (Exit.then (fun a' w'=>∃ m,m < n'∧J m a' w') Q) a w) {n':Nat} (h:J n' a w):(Code.loop body).wpIn Fn n P Q a w:=by
 classical
 let μ:Act→World→Nat:=fun a w=>if h:∃ n,J n a w∧∀ m,m < n→¬ J m a w then h.choose else 0
 have hμ:∀ n a w,J n a w→J (μ a w) a w∧μ a w≤n:=by
  intro n a w hJ
  have hl:=least (p:=fun n=>J n a w) n hJ
  have e:μ a w=hl.choose:=dif_pos hl
  rw [e]
  refine ⟨hl.choose_spec.1, ?_⟩
  rcases Nat.lt_or_ge n hl.choose with h | h
  ·exact absurd hJ (hl.choose_spec.2 n h)
  ·exact h
 refine wpIn_loop (fun a w=>∃ n,J n a w) μ ⟨n',h⟩ ?_
 rintro a w ⟨n,hJ⟩
 refine wpIn_mono (round _ a w (hμ n a w hJ).1) ?_
 intro e a' w' hq
 cases e with
 | normal=>
  obtain ⟨n',h1,h2⟩:=hq
  exact ⟨⟨n',h2⟩,Nat.lt_of_le_of_lt (hμ n' a' w' h2).2 h1⟩
 | _=>exact hq
end
section
variable {R : Type} {P : Program}
structure Ends (P:Program) (rd:Bool) (fb lo:Nat) (c:Code) (T:List AV) (H:Hp) (e:Ex) (T':List AV) (H':Hp):Prop where
 len:fb≤H'.length
 keep:∀ q,q < lo→H'[q]? =H[q]?
 wp:∀ ro:Option Nat,(rd=false→ro=none)→∀ (B0:Nat→Prop) (w0:World) (F:Fr) (Q:Exit→Act→World→Prop),w0.heap.size≤F.w.heap.size→F.n≤fb→(∀ i,F.D i→i < fb)→(∀ a' w',Sim P B0 w0 F T' (H'[·]?) a' w'→Q e.to a' w')→
  ∀ a w,Sim P B0 w0 F T (H[·]?) a w→c.wpIn (W ro) 0 P Q a w
inductive Rounds (P:Program) (rd:Bool) (fb lo:Nat) (c:Code) (e:Ex) (T':List AV) (H':Hp):Nat→List AV→Hp→Prop
 | last {T H} :Ends P rd fb lo c T H e T' H'→e≠ .normal→Rounds P rd fb lo c e T' H' 0 T H
 | more {n T H T1 H1} :Ends P rd fb lo c T H .normal T1 H1→Rounds P rd fb lo c e T' H' n T1 H1→Rounds P rd fb lo c e T' H' (n+1) T H
theorem Rounds.len {rd:Bool} {fb lo:Nat} {c:Code} {e:Ex} {T':List AV} {H':Hp} {n:Nat} {T:List AV} {H:Hp} (h:Rounds P rd fb lo c e T' H' n T H):fb≤H'.length∧∀ q,q < lo→H'[q]? =H[q]? :=by
 induction h with
 | last h _=>exact ⟨h.len,h.keep⟩
 | more h _ ih=>exact ⟨ih.1,fun q hq=>(ih.2 q hq).trans (h.keep q hq)⟩
theorem Rounds.ends {rd:Bool} {fb lo:Nat} {c:Code} {e:Ex} {T':List AV} {H':Hp} {n:Nat} {T:List AV} {H:Hp} (h:Rounds P rd fb lo c e T' H' n T H):Ends P rd fb lo (.loop c) T H e T' H':=by
 refine ⟨h.len.1,h.len.2,fun ro hro B0 w0 F Q hw0 hfn hFD hQ a w hs=> ?_⟩
 refine wpIn_loop_n (fun n a w=>∃ T H,Rounds P rd fb lo c e T' H' n T H∧Sim P B0 w0 F T (H[·]?) a w) ?_ ⟨T,H,h,hs⟩
 rintro n a w ⟨T,H,h,hs⟩
 cases h with
 | last h he=>
  refine h.wp ro hro B0 w0 F _ hw0 hfn hFD (fun a' w' hs'=> ?_) a w hs
  have:=hQ a' w' hs'
  cases e with
  | normal=>exact absurd rfl he
  | _=>exact this
 | more h h'=>exact h.wp ro hro B0 w0 F _ hw0 hfn hFD (fun a' w' hs'=> ⟨_,Nat.lt_succ_self _,_,_,h',hs'⟩) a w hs
theorem loopN_rounds {rd:Bool} {fb lo:Nat} {c:Code} {body:List AV→Hp→Cn R→Option R} (hb:∀ T H k r,fb≤H.length→body T H k=some r→∃ e T' H',k e T' H'=some r∧Ends P rd fb lo c T H e T' H'):∀ (n:Nat) (T:List AV) (H:Hp) (k:Cn R) (r:R),fb≤H.length→loopN body n T H k=some r→∃ e T' H' m,k e T' H'=some r∧Rounds P rd fb lo c e T' H' m T H
 | 0,T,H,k,r,hf,h=>by cases h
 | n+1,T,H,k,r,hf,h=>by
  obtain ⟨e,T1,H1,h1,h2⟩:=hb T H _ r hf h
  cases e with
  | normal=>
   obtain ⟨e,T',H',m,h3,h4⟩:=loopN_rounds hb n T1 H1 k r h2.len h1
   exact ⟨e,T',H',m+1,h3, .more h2 h4⟩
  | exit id=>exact ⟨_,T1,H1,0,h1, .last h2 (by intro h;cases h)⟩
  | ret=>exact ⟨_,T1,H1,0,h1, .last h2 (by intro h;cases h)⟩
end
end Go.V
namespace Go.V
open Go Go.RowKit
section
variable {R : Type} {P : Program} {B0 : Nat → Prop} {w0 : World} {D : Nat → Prop} {α : Nat → Nat × Nat} {h : Hf} {w : World}
theorem set_upd (H:Hp) {i:Nat} (hi:i < H.length) (k:Blk):((H.set i k)[·]?)=upd (H[·]?) i (some k):=by
 funext m
 unfold upd
 by_cases hm:m=i
 ·subst hm;rw [if_pos rfl];exact List.getElem?_set_self hi
 ·rw [if_neg hm];exact List.getElem?_set_ne (fun e=>hm e.symm)
theorem push_upd (H:Hp) (k:Blk):((H ++ [k])[·]?)=upd (H[·]?) H.length (some k):=by
 funext m
 unfold upd
 by_cases hm:m=H.length
 ·subst hm;rw [if_pos rfl];simp
 ·rw [if_neg hm]
  by_cases hl:m < H.length
  ·exact List.getElem?_append_left hl
  ·show (H ++ [k])[m]? =H[m]?
   rw [List.getElem?_eq_none (by simp;omega),List.getElem?_eq_none (by omega)]
theorem below_put {B l:Nat} (w:World) (o:Obj) (h:B≤l):Below B w (w.putObj l o):= ⟨rfl,rfl,rfl,by simp,fun k hk=>World.putObj_heap_other (by omega)⟩
theorem loop_upd (hO:Ok P B0 w0 D α h w) {i:Nat} (hi:D i) {rc:Rec} (h0:h i=some (.loop rc)) (st:LoopState) (pend:Option Jump):
  ∃ L,w.heap[(α i).1]? =some (.loop L)∧L.state=rc.st∧L.pending=rc.pend.map Jump.code∧L.params=rc.params∧(∃ f ps,subC P rc.g rc.path=some (.rangeFunc f ps L.assign L.body))∧RelL P α (Own B0 D α h) w rc.T D L.tmps.toList∧
   Ok P B0 w0 D α (upd h i (some (.loop { rc with st:=st,pend:=pend }))) (w.putObj (α i).1 (.loop { L with state:=st,pending:=pend.map Jump.code }))∧
   Goes D D α α (OwnD D α h) (OwnD D α (upd h i (some (.loop { rc with st:=st,pend:=pend })))) w (w.putObj (α i).1 (.loop { L with state:=st,pending:=pend.map Jump.code })):=by
 obtain ⟨L,h1,h2,h3,h4,h5,h6⟩:=hO.blk i _ hi h0
 refine ⟨L,h1,h2,h3,h4,h5,h6, ?_⟩
 exact ok_upd hO hi h0 rfl rfl (by simp) (fun b hb=>World.putObj_heap_other hb) (fun B hB=>below_put w _ hB) (fun hk=> ⟨_,World.putObj_heap_same (Array.getElem?_eq_some_iff.1 h1).1,rfl,rfl,h4,h5,RelL.mono _ _ hk h6⟩)
theorem funcOf_spec {fv:AV} {g:FuncId} {a b:List AV} (h:funcOf fv=some (g,a,b)):fv= .clo (.func g) a b∨∃ x y:Array Value,fv= .val (.func (.func g) x y)∧a=x.toList.map constA∧b=y.toList.map constA:=by
 unfold funcOf at h
 split at h
 ·cases h;exact .inl rfl
 ·cases h;exact .inr ⟨_,_,rfl,rfl,rfl⟩
 ·cases h
theorem Marks.push {n:Nat} {w w1:World} {ds:List Deferred} (hM:Marks n w ds) (hsz:w.heap.size≤w1.heap.size) (hs:∀ r:Nat,w.heap[r]? =some (Obj.deferred (some []))→w1.heap[r]? =some (Obj.deferred (some []))) (hn:w1.heap[w.heap.size]? =some (Obj.deferred (some []))):Marks n w1 ([{ target:= .collected w.heap.size,args:= #[] }] ++ ds):=by
 obtain ⟨h0,rs,rfl,h2,h3⟩:=hM
 refine ⟨Nat.le_trans h0 hsz,w.heap.size :: rs,rfl,List.nodup_cons.2 ⟨fun hm=> ?_,h2⟩,fun r hr=> ?_⟩
 ·have:=(Array.getElem?_eq_some_iff.1 (h3 _ hm).2).1
  omega
 ·rcases List.mem_cons.1 hr with rfl | hr
  ·exact ⟨h0,hn⟩
  ·exact ⟨(h3 r hr).1,hs r (h3 r hr).2⟩
def rangeEx (p:Option Jump):Ex:=match p with | none=> .normal | some .ret=> .ret | some (.exit n)=> .exit n
theorem rangeK_spec {i:Nat} {T:List AV} {k:Cn R} {v:AV} {H2:Hp} {r:R} (h:rangeK i T k v H2=some r):∃ rc,H2[i]? =some (.loop rc)∧rc.st≠ .busy∧k (rangeEx rc.pend) T (H2.set i (.loop { rc with st:= .exhausted }))=some r:=by
 unfold rangeK at h
 simp only [Bool.cond_eq_ite] at h
 split at h
 ·rename_i rc hrc
  split at h
  ·cases h
  ·rename_i hb
   refine ⟨rc,hrc,fun e=>hb (by rw [e];rfl), ?_⟩
   split at h
   ·rename_i hp;rw [show rangeEx rc.pend= .normal by rw [hp];rfl];exact h
   ·rename_i hp;rw [show rangeEx rc.pend= .ret by rw [hp];rfl];exact h
   ·rename_i n hp;rw [show rangeEx rc.pend= .exit n by rw [hp];rfl];exact h
 ·cases h
theorem range_ends {x:Cx R} (hx:CxOk x) {f:Operand} {ps:Array Tmp} {assign body:Code} {p:List Bool} (hp:subC x.P x.g p=some (.rangeFunc f ps assign body)) {T:List AV} {H:Hp} {k:Cn R} {r:R} (h:rangeA x f ps p T H k=some r) (hfb:x.fb≤H.length) (hlo:x.lo≤x.fb):
  ∃ e T' H',k e T' H'=some r∧Ends x.P x.rd x.fb x.lo (.rangeFunc f ps assign body) T H e T' H':=by
 unfold rangeA at h
 simp only [Bool.cond_eq_ite] at h
 split at h
 ·cases h
 ·rename_i hrd
  have hrd:x.rd=false:=by simpa using hrd
  split at h
  ·rename_i q hq
   obtain ⟨gf,fa,fc⟩:=q
   simp only at h
   split at h
   ·rename_i hok
    obtain ⟨v,H2,h1,h2,h3,h4⟩:=hx.cf _ _ _ _ _ _ hok h
    obtain ⟨rc,e1,e2,e3⟩:=rangeK_spec h1
    rw [List.length_append] at h2 h3
    simp only [List.length_singleton] at h2 h3
    have hi2:H.length < H2.length:=by omega
    refine ⟨_,_,_,e3, ⟨by rw [List.length_set];omega,fun q hq=> ?_,fun ro hro B0 w0 F Q hw0 hfn hFD hQ a w hs=> ?_⟩⟩
    ·rw [List.getElem?_set_ne (by omega),h3 (by omega) q hq,List.getElem?_append_left (by omega)]
    ·have hro:=hro hrd
     subst hro
     obtain ⟨hM,D,α,hO,hT,hG,hN⟩:=hs
     refine wpIn_rangeFunc (fun fn _=> ?_)
     have hev:(evA T f).Rel x.P α (Own B0 D α (H[·]?)) w D (a.eval f):=eval_rel f (fun d _=>RelL.slot hT d)
     obtain ⟨xs,ys,hev,hr1,hr2⟩:=fn_rel (funcOf_spec hq) hev
     have hbl:Below w.heap.size w (w.alloc (.deferred (some []))):=(Below.refl _ _).alloc (Nat.le_refl _) _
     obtain ⟨hO1,hG1⟩:=ok_grow hO hbl
     have hsz1:(w.alloc (.deferred (some []))).heap.size=w.heap.size+1:=by rw [World.size_alloc]
     have hnD:¬ D H.length:=fun hd=>by obtain ⟨k,hk⟩:=hO.lt _ hd;have:=(List.getElem?_eq_some_iff.1 hk).1;omega
     obtain ⟨hO2,hG2⟩:=ok_new hO1 (n:=H.length) hnD (o:= .loop { state:= .ready,pending:=none,fn,tmps:=a.tmps,params:=ps,assign,body,defers:=w.heap.size }) (fun ds=>by intro e;cases e) (k:= .loop { T:=T,params:=ps,g:=x.g,path:=p,st:= .ready,pend:=none }) rfl (sz:=0) (fun D' α' B' w' hk hw'=>
      ⟨_,hw',rfl,rfl,rfl, ⟨f,ps,hp⟩,RelL.mono _ _ hk (RelL.mono _ _ (hG1.keeps B0) hT)⟩)
     rw [← push_upd] at hO2 hG2
     obtain ⟨W1,hW1⟩:∃ W1:World,W1=((w.alloc (Obj.deferred (some []))).alloc (Obj.loop { state:= .ready,pending:=none,fn,tmps:=a.tmps,params:=ps,assign,body,defers:=w.heap.size })):= ⟨_,rfl⟩
     rw [← hW1] at hO2 hG2
     have hG12:=hG1.trans hG2
     have hk2:=hG12.keeps B0
     have hargs:RelL x.P (updα α H.length ((w.alloc (.deferred (some []))).heap.size,0)) (Own B0 (orD D H.length) (updα α H.length ((w.alloc (.deferred (some []))).heap.size,0)) ((H ++ [Blk.loop { T:=T,params:=ps,g:=x.g,path:=p,st:= .ready,pend:=none }])[·]?)) W1
       (fa ++ [.yld H.length] ++ fc) (orD D H.length) (xs ++ #[Value.func (.yield (w.heap.size+1)) #[] #[]] ++ ys).toList:=by
      rw [Array.toList_append,Array.toList_append]
      refine RelL.append (RelL.append (RelL.mono _ _ hk2 hr1) ⟨_, [],rfl, ⟨.inr rfl, ?_⟩,rfl⟩) (RelL.mono _ _ hk2 hr2)
      rw [updα_self,hsz1]
     have hcall:=h4 B0 w0 _ _ _ _ hO2 hargs
     refine ⟨w.heap.size+1, [{ target:= .collected w.heap.size,args:= #[] }],W1, { target:= .fn (.func gf) ys,args:=xs ++ #[Value.func (.yield (w.heap.size+1)) #[] #[]] },W1,gf,_,W1,by rw [hW1];exact run_enterLoop_outer fn a.tmps ps assign body, ?_,fun f' _=>trivial, ?_,(fun h=>by cases h),hcall.mono ?_⟩
     ·simp only [resolve,hev,Deferred.ofValue,Sem.run_pure,List.map_toArray,List.map_cons,List.map_nil]
      rfl
     ·unfold okFn at hok
      cases hfn':x.P.funcs[gf]? with
      | none=>rw [hfn'] at hok;cases hok
      | some fnn=>
       rw [hfn'] at hok
       simp only [Bool.and_eq_true,Bool.not_eq_true',beq_eq_false_iff_ne] at hok
       have hb:fnn.body.isNone=false:=by
        cases hbb:fnn.body with
        | none=>rw [hbb] at hok;simp at hok
        | some c=>rfl
       have hn : (fnn.name == "runtime.NumGoroutine") = false := by simpa using hok.2
       simp only [invoke,callFunc,Sem.run_bind,run_program,Result.andThen,hfn',hn,hb,Bool.false_eq_true,if_false,Sem.run_pure]
     ·rintro e w3 ⟨y,D3,α3,rfl,hO3,hD3,hG3,_⟩
      have hd3:D3 H.length:=hG3.le _ (.inr rfl)
      have hα3:(α3 H.length).1=w.heap.size+1:=by rw [hG3.same _ (.inr rfl),updα_self,hsz1]
      obtain ⟨L,l1,l2,l3,l4,l5,l6,hO4,hG4⟩:=loop_upd hO3 hd3 e1 .exhausted rc.pend
      rw [← set_upd H2 hi2] at hO4 hG4
      rw [hα3] at l1 hO4 hG4
      have hend:=run_endLoop (P:=x.P) l1 (by rw [l2];exact e2)
      rw [← l3] at hO4 hG4
      refine ⟨L.pending,_,hend, ?_⟩
      have hGa:=(hG12.trans hG3).trans hG4
      have hM1:Marks F.w.heap.size W1 ([{ target:= .collected w.heap.size,args:= #[] }] ++ a.defers):=by
       rw [hW1]
       refine hM.push (by rw [World.size_alloc,hsz1];omega) (fun r hr=> ?_) ?_
       ·have hlt:=(Array.getElem?_eq_some_iff.1 hr).1
        rw [Below.heap_alloc _ _ _ (by rw [hsz1];omega),Below.heap_alloc _ _ _ hlt];exact hr
       ·rw [Below.heap_alloc _ _ _ (by rw [hsz1];omega)];exact World.alloc_heap_new w _
      have hsim:Sim x.P B0 w0 F T ((H2.set H.length (.loop { rc with st:= .exhausted }))[·]?) { a with defers:= [{ target:= .collected w.heap.size,args:= #[] }] ++ a.defers } (w3.putObj (w.heap.size+1) (.loop { L with state:= .exhausted })):=by
       refine ⟨(hM1.mono hO2 hO3 hG3).mono hO3 hO4 hG4,D3,α3,hO4,RelL.mono _ _ (hGa.keeps B0) hT,hG.trans hGa,fun i hi hlt=> ?_⟩
       rcases hD3 i hi with (h5 | h5) | h5
       ·exact hN i h5 hlt
       ·omega
       ·rw [List.length_append] at h5;omega
      have hq:=hQ _ _ hsim
      rw [l3] at hq ⊢
      cases hpd:rc.pend with
      | none=>rw [hpd] at hq;exact hq
      | some j=>
       rw [hpd] at hq
       cases j with
       | ret=>exact wpIn_ret hq
       | exit n=>exact wpIn_exit hq
   ·cases h
  ·cases h
def LoopsOk (P:Program) (E:Env):Prop:=∀ g n p s T H e T' H',E.L g n p=some s→s.2 T H=some (true,e,T',H')→∃ body,subC P g p=some (.loop body)∧Ends P false n 0 (.loop body) T H e T' H'
theorem toldK_out {R:Type} {q:Option (Bool×Ex×List AV×Hp)} {k:Cn R} {r:R} (h:toldK q k=some r):∃ e T' H',q=some (true,e,T',H')∧k e T' H'=some r:=by
 unfold toldK at h
 split at h
 ·rename_i q'
  obtain ⟨qb,e,T',H'⟩:=q'
  simp only [Bool.cond_eq_ite] at h
  split at h
  ·rename_i hqb
   subst hqb
   exact ⟨e,T',H',rfl,h⟩
  ·cases h
 ·cases h
theorem fixO_eq {T:List AV} {c:Operand} {b:Bool} (h:evA T c= .val (.bool b)):fixO T c b=T:=by
 cases c with
 | tmp d=>exact fix_eq h
 | _=>rfl
theorem subC_child {P:Program} {g:FuncId} {p:List Bool} {c c':Code} {b:Bool} (h:subC P g p=some c) (hc:child b c=some c'):subC P g (b :: p)=some c':=by
 show (subC P g p).bind (child b)=some c'
 rw [h]
 exact hc
theorem exec_sound {x:Cx R} (hx:CxOk x) (hL:LoopsOk x.P x.E) (hmx:x.P.follows .mixedOrders=true):∀ (c:Code) (p:List Bool),subC x.P x.g p=some c→∀ (T:List AV) (H:Hp) (k:Cn R) (r:R),exec x c p T H k=some r→x.fb≤H.length→x.lo≤x.fb→
  ∃ e T' H',k e T' H'=some r∧Ends x.P x.rd x.fb x.lo c T H e T' H':=by
 intro c
 induction c with
 | skip=>intro p hp T H k r h hf hl;exact ⟨.normal,T,H,h, ⟨hf,fun _ _=>rfl,fun ro hro B0 w0 F Q hw0 hfn hFD hQ a w hs=>wpIn_skip (hQ a w hs)⟩⟩
 | region id ops draw=>
  intro p hp T H k r h hf hl
  obtain ⟨T',H',h1,h2,h3,h4⟩:=exec_region hx rfl hmx h
  exact ⟨.normal,T',H',h1, ⟨Nat.le_trans hf h2,h3 (Nat.le_trans hl hf),fun ro hro B0 w0 F Q hw0 hfn hFD hQ a w hs=>h4 ro B0 w0 F Q id hw0 (Nat.le_trans hfn hf) hQ a w hs⟩⟩
 | seq y z ihy ihz=>
  intro p hp T H k r h hf hl
  rw [exec] at h
  obtain ⟨e,T1,H1,h1,h2⟩:=ihy _ (subC_child hp rfl) T H _ r h hf hl
  cases e with
  | normal=>
   obtain ⟨e,T',H',h3,h4⟩:=ihz _ (subC_child hp rfl) T1 H1 k r h1 h2.len hl
   refine ⟨e,T',H',h3, ⟨h4.len,fun q hq=>(h4.keep q hq).trans (h2.keep q hq),fun ro hro B0 w0 F Q hw0 hfn hFD hQ a w hs=>wpIn_seq ?_⟩⟩
   exact h2.wp ro hro B0 w0 F _ hw0 hfn hFD (fun a' w' hs'=>h4.wp ro hro B0 w0 F Q hw0 hfn hFD hQ a' w' hs') a w hs
  | exit n=>exact ⟨_,T1,H1,h1, ⟨h2.len,h2.keep,fun ro hro B0 w0 F Q hw0 hfn hFD hQ a w hs=>wpIn_seq (by refine h2.wp ro hro B0 w0 F _ hw0 hfn hFD (fun a' w' hs'=> ?_) a w hs;exact hQ a' w' hs')⟩⟩
  | ret=>exact ⟨_,T1,H1,h1, ⟨h2.len,h2.keep,fun ro hro B0 w0 F Q hw0 hfn hFD hQ a w hs=>wpIn_seq (by refine h2.wp ro hro B0 w0 F _ hw0 hfn hFD (fun a' w' hs'=> ?_) a w hs;exact hQ a' w' hs')⟩⟩
 | cond c1 y z ihy ihz=>
  intro p hp T H k r h hf hl
  rw [exec] at h
  unfold condA at h
  split at h
  ·rename_i v hv
   split at h
   ·rename_i t
    have hev:∀ {B0:Nat→Prop} {w0:World} {F:Fr} {a:Act} {w:World},Sim x.P B0 w0 F T (H[·]?) a w→a.eval c1= .bool t:=by
     rintro B0 w0 F a w ⟨hM,D,α,hO,hT,_⟩
     have:=eval_rel (P:=x.P) (D:=D) (α:=α) (B:=Own B0 D α (H[·]?)) (w:=w) (T:=T) (a:=a) c1 (fun d _=>RelL.slot hT d)
     rw [hv] at this
     exact this
    cases t with
    | true=>
     simp only [cond] at h
     rw [fixO_eq hv] at h
     obtain ⟨e,T',H',h1,h2⟩:=ihy _ (subC_child hp rfl) T H k r h hf hl
     exact ⟨e,T',H',h1, ⟨h2.len,h2.keep,fun ro hro B0 w0 F Q hw0 hfn hFD hQ a w hs=>wpIn_cond_true (hev hs) (h2.wp ro hro B0 w0 F Q hw0 hfn hFD hQ a w hs)⟩⟩
    | false=>
     simp only [cond] at h
     rw [fixO_eq hv] at h
     obtain ⟨e,T',H',h1,h2⟩:=ihz _ (subC_child hp rfl) T H k r h hf hl
     exact ⟨e,T',H',h1, ⟨h2.len,h2.keep,fun ro hro B0 w0 F Q hw0 hfn hFD hQ a w hs=>wpIn_cond_false (hev hs) (h2.wp ro hro B0 w0 F Q hw0 hfn hFD hQ a w hs)⟩⟩
   ·cases h
  ·cases h
 | block id body ih=>
  intro p hp T H k r h hf hl
  rw [exec] at h
  obtain ⟨e,T',H',h1,h2⟩:=ih _ (subC_child hp rfl) T H _ r h hf hl
  cases e with
  | normal=>exact ⟨.normal,T',H',h1, ⟨h2.len,h2.keep,fun ro hro B0 w0 F Q hw0 hfn hFD hQ a w hs=>wpIn_block (by refine h2.wp ro hro B0 w0 F _ hw0 hfn hFD (fun a' w' hs'=> ?_) a w hs;exact hQ a' w' hs')⟩⟩
  | exit id'=>
   unfold blockK at h1
   simp only [Bool.cond_eq_ite,beq_iff_eq] at h1
   split at h1
   ·rename_i he
    exact ⟨.normal,T',H',h1, ⟨h2.len,h2.keep,fun ro hro B0 w0 F Q hw0 hfn hFD hQ a w hs=>wpIn_block (h2.wp ro hro B0 w0 F _ hw0 hfn hFD (fun a' w' hs'=>by simp only [Ex.to,Exit.inBlock,if_pos he];exact hQ a' w' hs') a w hs)⟩⟩
   ·rename_i he
    exact ⟨.exit id',T',H',h1, ⟨h2.len,h2.keep,fun ro hro B0 w0 F Q hw0 hfn hFD hQ a w hs=>wpIn_block (h2.wp ro hro B0 w0 F _ hw0 hfn hFD (fun a' w' hs'=>by simp only [Ex.to,Exit.inBlock,if_neg he];exact hQ a' w' hs') a w hs)⟩⟩
  | ret=>exact ⟨.ret,T',H',h1, ⟨h2.len,h2.keep,fun ro hro B0 w0 F Q hw0 hfn hFD hQ a w hs=>wpIn_block (by refine h2.wp ro hro B0 w0 F _ hw0 hfn hFD (fun a' w' hs'=> ?_) a w hs;exact hQ a' w' hs')⟩⟩
 | loop body ih=>
  intro p hp T H k r h hf hl
  rw [exec] at h
  unfold loopA at h
  simp only [Bool.cond_eq_ite] at h
  have plain:loopN (exec x body (false :: p)) x.u T H k=some r→∃ e T' H',k e T' H'=some r∧Ends x.P x.rd x.fb x.lo (.loop body) T H e T' H':=by
   intro h
   obtain ⟨e,T',H',m,h1,h2⟩:=loopN_rounds (P:=x.P) (rd:=x.rd) (fb:=x.fb) (lo:=x.lo) (c:=body) (fun T H k r hf h=>ih _ (subC_child hp rfl) T H k r h hf hl) x.u T H k r hf h
   exact ⟨e,T',H',h1,h2.ends⟩
  split at h
  ·rename_i s hs
   split at h
   ·exact plain h
   ·rename_i hrd
    rw [Bool.not_eq_true] at hrd
    split at h
    ·rename_i hz
     rw [beq_iff_eq] at hz
     unfold gcA gcGo at h
     simp only [Bool.cond_eq_ite] at h
     split at h
     ·rename_i hok
      obtain ⟨e,T',H',hq,h⟩:=toldK_out h
      obtain ⟨body',hb,hE⟩:=hL x.g _ p s _ _ e T' H' hs hq
      rw [hp] at hb
      cases hb
      refine ⟨e,T',H',h, ⟨by omega,fun q hq=>by omega,fun ro hro B0 w0 F Q hw0 hfn hFD hQ a w hs=> ?_⟩⟩
      have hF0:∀ i,¬ F.D i:=fun i hi=>by have:=hFD i hi;omega
      refine hE.wp ro (fun _=>hro hrd) B0 w0 F Q hw0 (by omega) (fun i hi=>absurd hi (hF0 i)) hQ a w ?_
      obtain ⟨hM,D,α,hO,hT,hG,hN⟩:=hs
      exact sim_gc hok hF0 (by omega) ⟨hM,D,α,hO,mask_rel hT,hG,hN⟩
     ·cases h
    ·split at h
     ·rename_i hlo
      rw [beq_iff_eq] at hlo
      split at h
      ·unfold gcF gcGoF at h
       simp only [Bool.cond_eq_ite,Bool.and_eq_true] at h
       split at h
       ·rename_i hok
        obtain ⟨e,T',H',hq,h⟩:=toldK_out h
        obtain ⟨body',hb,hE⟩:=hL x.g _ p s _ _ e T' H' hs hq
        rw [hp] at hb
        cases hb
        refine ⟨e,T',H',h, ⟨hE.len,fun q hq=>by omega,fun ro hro B0 w0 F Q hw0 hfn hFD hQ a w hs=> ?_⟩⟩
        exact hE.wp ro (fun _=>hro hrd) B0 w0 F Q hw0 hfn hFD hQ a w (sim_gcm hok.1 hok.2 hfn hFD hs)
       ·cases h
      ·obtain ⟨e,T',H',hq,h⟩:=toldK_out h
       obtain ⟨body',hb,hE⟩:=hL x.g _ p s _ _ e T' H' hs hq
       rw [hp] at hb
       cases hb
       refine ⟨e,T',H',h, ⟨hE.len,fun q hq=>by omega,fun ro hro B0 w0 F Q hw0 hfn hFD hQ a w hs=> ?_⟩⟩
       refine hE.wp ro (fun _=>hro hrd) B0 w0 F Q hw0 hfn hFD hQ a w ?_
       obtain ⟨hM,D,α,hO,hT,hG,hN⟩:=hs
       exact ⟨hM,D,α,hO,mask_rel hT,hG,hN⟩
     ·cases h
  ·exact plain h
 | exit id=>intro p hp T H k r h hf hl;exact ⟨.exit id,T,H,h, ⟨hf,fun _ _=>rfl,fun ro hro B0 w0 F Q hw0 hfn hFD hQ a w hs=>wpIn_exit (hQ a w hs)⟩⟩
 | scope body ih=>
  intro p hp T H k r h hf hl
  rw [exec] at h
  obtain ⟨e,T',H',h1,h2⟩:=ih _ (subC_child hp rfl) T H _ r h hf hl
  refine ⟨e,T',H',h1, ⟨h2.len,h2.keep,fun ro hro B0 w0 F Q hw0 hfn hFD hQ a w hs=>wpIn_scope (h2.wp ro hro B0 w0 F _ hw0 hfn hFD (fun a' w' hs'=> ?_) a w hs)⟩⟩
  have:=hQ a' w' hs'
  cases e <;> exact this
 | label l=>intro p hp T H k r h hf hl;exact ⟨.normal,T,H,h, ⟨hf,fun _ _=>rfl,fun ro hro B0 w0 F Q hw0 hfn hFD hQ a w hs=>wpIn_label (hQ a w hs)⟩⟩
 | ret=>intro p hp T H k r h hf hl;exact ⟨.ret,T,H,h, ⟨hf,fun _ _=>rfl,fun ro hro B0 w0 F Q hw0 hfn hFD hQ a w hs=>wpIn_ret (hQ a w hs)⟩⟩
 | rangeFunc f ps assign body _ _=>
  intro p hp T H k r h hf hl
  rw [exec] at h
  exact range_ends hx hp h hf hl
 | _=>intro p hp T H k r h;simp [exec] at h
end
end Go.V
namespace Go.V
open Go Go.RowKit
section
variable {R : Type} {P : Program}
theorem run_result {T:List AV} {H:Hp} :∀ (l:List ResultVar) (K:List AV→Option R) (r:R),resultsA P T H l K=some r→∃ vs,K vs=some r∧
  ∀ {B0:Nat→Prop} {w0:World} {D:Nat→Prop} {α:Nat→Nat×Nat} {w:World} {tmps:Array Value},Ok P B0 w0 D α (H[·]?) w→RelL P α (Own B0 D α (H[·]?)) w T D tmps.toList→∃ ys,(l.mapM fun
   | .tmp t=>pure (tmps.getD t undef)
   | .cell x t=>do loadVar t (← asAddr (tmps.getD x undef)):Sem (List Value)).run P w= .ok ys w∧RelL P α (Own B0 D α (H[·]?)) w vs D ys
 | [],K,r,h=> ⟨[],h,fun {B0 w0 D α w tmps} hO hT=> ⟨[],rfl,rfl⟩⟩
 | x :: l,K,r,h=>by
  unfold resultsA at h
  have hev:∀ (t:Nat) {B0:Nat→Prop} {D:Nat→Prop} {α:Nat→Nat×Nat} {w:World} {tmps:Array Value},RelL P α (Own B0 D α (H[·]?)) w T D tmps.toList→(evA T (.tmp t)).Rel P α (Own B0 D α (H[·]?)) w D (tmps.getD t undef):=fun t {B0 D α w tmps} hT=>eval_rel (a:= { tmps:=tmps,defers:= [] }) (.tmp t) (fun d _=>RelL.slot hT d)
  cases x with
  | tmp t=>
   unfold resultA at h
   obtain ⟨vs,h1,h2⟩:=run_result l _ r h
   refine ⟨_,h1,fun {B0 w0 D α w tmps} hO hT=> ?_⟩
   obtain ⟨ys,k1,k2⟩:=h2 hO hT
   refine ⟨tmps.getD t undef :: ys, ?_,_,ys,rfl,hev t hT,k2⟩
   simp only [List.mapM_cons,Sem.run_bind,Sem.run_pure,Result.andThen,k1]
  | cell x t=>
   unfold resultA at h
   obtain ⟨v,h0,h3⟩:=load_sound h
   obtain ⟨vs,h1,h2⟩:=run_result l _ r h0
   refine ⟨_,h1,fun {B0 w0 D α w tmps} hO hT=> ?_⟩
   obtain ⟨ys,k1,k2⟩:=h2 hO hT
   obtain ⟨b,off,y,he,e1,e2⟩:=h3 (fun _ _ _ _=>rfl) hO (hev x hT)
   refine ⟨y :: ys, ?_,_,ys,rfl,e2,k2⟩
   have ha:(asAddr (tmps.getD x undef)).run P w= .ok ⟨b,off,none⟩ w:=by rw [he];rfl
   simp only [List.mapM_cons,Sem.run_bind,Sem.run_pure,ha,Result.andThen,e1,k1]
theorem pack_rel {D:Nat→Prop} {α:Nat→Nat×Nat} {B:Nat→Prop} {w:World} {vs:List AV} {ys:List Value} (k:RelL P α B w vs D ys):(packA vs).Rel P α B w D (if h:ys.toArray.size=1 then ys.toArray[0] else .tuple ys.toArray):=by
 have hlen:=RelL.len k
 unfold packA
 split
 ·obtain ⟨y,zs,rfl,k1,k2⟩:=k
  rw [show zs= [] from k2]
  exact k1
 ·rename_i hn
  rw [dif_neg ?_]
  ·exact ⟨_,rfl,k⟩
  ·intro h1
   rw [List.size_toArray,hlen] at h1
   cases vs with
   | nil=>cases h1
   | cons v vs=>
    cases vs with
    | nil=>exact hn v rfl
    | cons u vs=>simp at h1
theorem ok_mark {B0:Nat→Prop} {w0:World} {D:Nat→Prop} {α:Nat→Nat×Nat} {h:Hf} {w:World} (hO:Ok P B0 w0 D α h w) {m:Nat} {ds:Option (List Deferred)} (hm:w.heap[m]? =some (.deferred ds)) (hw:w0.heap.size≤m) (ds':Option (List Deferred)):
  Ok P B0 w0 D α h (w.putObj m (.deferred ds'))∧Keeps D D α α (Own B0 D α h) (Own B0 D α h) w (w.putObj m (.deferred ds')):=by
 have hne:∀ (b:Nat) (o:Obj),w.heap[b]? =some o→(∀ ds,o≠Obj.deferred ds)→(w.putObj m (.deferred ds')).heap[b]? =some o:=by
  intro b o h1 h2
  rw [World.putObj_heap_other (fun e=>by subst e;rw [hm] at h1;cases h1;exact h2 _ rfl)]
  exact h1
 have hk:Keeps D D α α (Own B0 D α h) (Own B0 D α h) w (w.putObj m (.deferred ds')):= ⟨fun _ h=>h,fun _ _=>rfl,fun b cs ty fr h1 h2=> ⟨h2,hne b _ h1 (fun ds e=>by cases e)⟩⟩
 refine ⟨⟨hO.lt,hO.below.trans (below_put w _ hw),fun b hb=> ?_,hO.sep,fun i hi=>by rw [World.putObj_size];exact hO.fresh i hi,hO.inj,hO.frz,fun i k hi h0=> ?_⟩,hk⟩
 ·have h1:=hO.old b hb
  refine ⟨by rw [World.putObj_size];exact h1.1,fun ds=> ?_⟩
  rw [World.putObj_heap_other (fun e=>by subst e;exact h1.2 _ hm)]
  exact h1.2 ds
 ·have hb:=hO.blk i k hi h0
  cases k with
  | row c ty st=>
   rcases hb with hb | ⟨cs,fr,h1,h2,h3,h4,h5⟩
   ·exact .inl hb
   ·exact .inr ⟨cs,fr,hne _ _ h1 (fun ds e=>by cases e),h2,h3,h4,RelL.mono _ _ hk h5⟩
  | loop rc=>
   obtain ⟨L,h1,h2,h3,h4,h5,h6⟩:=hb
   exact ⟨L,hne _ _ h1 (fun ds e=>by cases e),h2,h3,h4,h5,RelL.mono _ _ hk h6⟩
theorem leave_marks {B0:Nat→Prop} {w0:World} {F:Fr} {h:Hf} {T:List AV} {tmps:Array Value} {fn:Func} {Rr:Ending→World→Prop} {D:Nat→Prop} {α:Nat→Nat×Nat} (hw0:w0.heap.size≤F.w.heap.size)
  (hend:∀ w,Ok P B0 w0 D α h w→RelL P α (Own B0 D α h) w T D tmps.toList→Goes F.D D F.α α F.C (OwnD D α h) F.w w→∃ v,(results fn tmps).run P w= .ok v w∧Rr (.returned v) w):
  ∀ (rs:List Nat) (w:World),rs.Nodup→(∀ r ∈ rs,F.w.heap.size≤r∧w.heap[r]? =some (.deferred (some [])))→Ok P B0 w0 D α h w→RelL P α (Own B0 D α h) w T D tmps.toList→Goes F.D D F.α α F.C (OwnD D α h) F.w w→
   LeavesInM Fence.wide 0 P fn tmps Rr (rs.map fun r=> { target:= .collected r,args:= #[] }) .returning w
 | [],w,_,_,hO,hT,hG=>hend w hO hT hG
 | m :: rs,w,hn,hr,hO,hT,hG=>by
  obtain ⟨hm1,hm2⟩:=hr m List.mem_cons_self
  obtain ⟨hn1,hn2⟩:=List.nodup_cons.1 hn
  obtain ⟨hO',hk⟩:=ok_mark hO hm2 (Nat.le_trans hw0 hm1) none
  refine ⟨(by intro h;cases h), .inl ⟨m,_,rfl,run_takeDeferred hm2, ?_⟩⟩
  refine leave_marks hw0 hend rs _ hn2 (fun r hr'=> ?_) hO' (RelL.mono _ _ hk hT) ⟨hG.le,hG.same,fun b o h1 h2=> ?_⟩
  ·have:=hr r (List.mem_cons_of_mem _ hr')
   exact ⟨this.1,(World.putObj_heap_other (fun e:r=m=>hn1 (e ▸ hr'))).trans this.2⟩
  ·have hlt:=(Array.getElem?_eq_some_iff.1 h1).1
   have:=hG.block b o h1 h2
   exact ⟨this.1,(World.putObj_heap_other (by omega)).trans this.2⟩
theorem params_rel {D:Nat→Prop} {α:Nat→Nat×Nat} {B:Nat→Prop} {w:World} :∀ (ps:List Tmp) (T:List AV) (args:List AV) (tmps:Array Value) (xs:List Value),RelL P α B w T D tmps.toList→RelL P α B w args D xs→
  RelL P α B w (setParams T ps args) D ((ps.zip xs).foldl (fun (tmps:Array Value) (p:Tmp×Value)=>tmps.setIfInBounds p.1 p.2) tmps).toList
 | [],T,args,tmps,xs,hT,ha=>by simpa [setParams] using hT
 | p :: ps,T, [],tmps,xs,hT,ha=>by rw [show xs= [] from ha];simpa [setParams] using hT
 | p :: ps,T,v :: args,tmps,xs,hT,ha=>by
  obtain ⟨y,zs,rfl,h1,h2⟩:=ha
  exact params_rel ps (T.set p v) args (tmps.setIfInBounds p y) zs (by rw [Array.toList_setIfInBounds];exact RelL.set hT p h1) h2
theorem retK_spec {fn:Func} {k:Kn R} {e:Ex} {T:List AV} {H:Hp} {r:R} (h:retK P fn k e T H=some r):(e= .normal∨e= .ret)∧resultsA P T H fn.results.toList (fun vs=>k (packA vs) H)=some r:=by
 unfold retK at h
 cases e with
 | normal=>exact ⟨.inl rfl,h⟩
 | ret=>exact ⟨.inr rfl,h⟩
 | exit id=>cases h
theorem call_sound {E:Env} {u d:Nat} (hcx:∀ fb lo g rd,CxOk (R:=R) ⟨P,E,callF P E u d,yieldF P E u d,u,fb,lo,g,rd⟩) (hL:LoopsOk P E) (hmx:P.follows .mixedOrders=true):CfOk P (R:=R) (callF P E u (d+1)):=by
 intro lo g args H k r hok h
 unfold callF at h
 split at h
 ·cases h
 ·rename_i fn hfn
  split at h
  ·cases h
  ·rename_i c hc
   simp only [Bool.cond_eq_ite] at h
   split at h
   ·rename_i hlo
    have hlo:=of_decide_eq_true hlo
    obtain ⟨e,T',H',h1,h2⟩:=exec_sound (hcx H.length lo g false) hL hmx c [] (by show (P.funcs[g]?).bind (·.body)=some c;rw [hfn];exact hc) _ H _ r h (Nat.le_refl _) hlo
    obtain ⟨he,h3⟩:=retK_spec h1
    obtain ⟨vs,h4,h5⟩:=run_result _ _ r h3
    refine ⟨packA vs,H',h4,h2.len,fun _=>h2.keep,fun B0 w0 D α w xs hO hargs=> ?_⟩
    have hlen:=RelL.len hargs
    rw [Array.length_toList] at hlen
    have hs:Sim P B0 w0 ⟨H.length,D,α,OwnD D α (H[·]?),w⟩ (args ++ List.replicate (fn.ntmps - args.length) (.val undef)) (H[·]?) { tmps:=xs ++ Array.replicate (fn.ntmps - xs.size) undef,defers:= [] } w:=by
     refine ⟨⟨Nat.le_refl _, [],rfl,List.nodup_nil,fun r h=>by cases h⟩,D,α,hO, ?_,Goes.refl _ _ _ _,fun i hi _=>hi⟩
     rw [Array.toList_append,Array.toList_replicate,hlen]
     refine RelL.append hargs ?_
     rw [show List.replicate (fn.ntmps - args.length) (AV.val undef)=(List.replicate (fn.ntmps - args.length) undef).map .val by rw [List.map_replicate]]
     exact RelL.vals _
    have hlt:∀ i,D i→i < H.length:=fun i hi=>by obtain ⟨k,hk⟩:=hO.lt i hi;exact (List.getElem?_eq_some_iff.1 hk).1
    refine callsIn_of_wp_marks (F:=Fence.wide) hfn hc trivial (h2.wp none (fun _=>rfl) B0 w0 ⟨H.length,D,α,OwnD D α (H[·]?),w⟩ _ hO.below.size (Nat.le_refl _) hlt (fun a' w' hs'=> ?_) _ w hs)
    obtain ⟨⟨_,rs,hrs,hnd,hrs2⟩,D',α',hO',hT',hG',hN'⟩:=hs'
    have key:LeavesInM Fence.wide 0 P fn a'.tmps (After P B0 w0 D α (H[·]?) w H.length H'.length (packA vs) (H'[·]?)) a'.defers .returning w':=by
     rw [hrs]
     refine leave_marks (F:= ⟨H.length,D,α,OwnD D α (H[·]?),w⟩) hO.below.size (fun w'' hO'' hT'' hG''=> ?_) rs w' hnd hrs2 hO' hT' hG'
     obtain ⟨ys,k1,k2⟩:=h5 hO'' hT''
     refine ⟨_, ?_,_,D',α',rfl,hO'',fun i hi=> ?_,hG'',pack_rel k2⟩
     ·unfold results
      simp only [Array.mapM_eq_mapM_toList,Sem.run_bind,Sem.run_map,Result.andThen,Sem.run_pure]
      erw [k1]
     ·by_cases hi':i < H.length
      ·exact .inl (hN' i hi hi')
      ·obtain ⟨k,hk⟩:=hO''.lt i hi
       have:=(List.getElem?_eq_some_iff.1 hk).1
       exact .inr ⟨by omega,this⟩
    rcases he with rfl | rfl
    ·exact key
    ·exact key
   ·cases h
theorem endK_spec {i:Nat} {k:Kn R} {e:Ex} {T2:List AV} {H2:Hp} {r:R} (h:endK i k e T2 H2=some r):∃ r2 j b st,H2[i]? =some (.loop r2)∧k (.val (.bool b)) (H2.set i (.loop { r2 with st:=st,pend:=j }))=some r∧e=rangeEx j∧b=j.isNone∧st=(if j.isNone then .ready else .done):=by
 unfold endK at h
 split at h
 ·rename_i r2 hr2
  cases e with
  | normal=>exact ⟨r2,none,true, .ready,hr2,h,rfl,rfl,rfl⟩
  | ret=>exact ⟨r2,some .ret,false, .done,hr2,h,rfl,rfl,rfl⟩
  | exit n=>exact ⟨r2,some (.exit n),false, .done,hr2,h,rfl,rfl,rfl⟩
 ·cases h
theorem beginK_spec {i:Nat} {B:Nat→List AV→Hp→Cn R→Option R} {k:Kn R} {e:Ex} {T1:List AV} {H1:Hp} {r:R} (h:beginK i B k e T1 H1=some r):∃ r1,e= .normal∧H1[i]? =some (.loop r1)∧r1.st= .ready∧B H1.length T1 (H1.set i (.loop { r1 with st:= .busy })) (endK i k)=some r:=by
 unfold beginK at h
 simp only [Bool.cond_eq_ite] at h
 split at h
 ·split at h
  ·rename_i r1 hr1
   split at h
   ·rename_i hst
    refine ⟨r1,rfl,hr1, ?_,h⟩
    cases hs:r1.st <;> rw [hs] at hst <;> first | rfl | cases hst
   ·cases h
  ·cases h
 ·cases h
theorem round_post {l:Nat} {Rr:Ending→World→Prop} {j:Option Jump} {a:Act} {w w':World} (h1:(Instr.endRound l (j.map Jump.code)).run P w= .ok (.bool j.isNone) w') (h2:Rr (.returned (.bool j.isNone)) w'):roundPost P l Rr (rangeEx j).to a w:=by
 cases j with
 | none=>exact ⟨_,_,h1,h2⟩
 | some j=>
  cases j with
  | ret=>exact ⟨_,_,h1,h2⟩
  | exit n=>exact ⟨_,_,h1,h2⟩
theorem yield_sound {E:Env} {u d:Nat} (hcx:∀ fb lo g rd,CxOk (R:=R) ⟨P,E,callF P E u d,yieldF P E u d,u,fb,lo,g,rd⟩) (hL:LoopsOk P E) (hmx:P.follows .mixedOrders=true):YfOk P (R:=R) (yieldF P E u (d+1)):=by
 intro lo i args H k r h
 unfold yieldF at h
 split at h
 ·rename_i rc hrc
  split at h
  ·rename_i f ps assign body hcode
   simp only [Bool.cond_eq_ite] at h
   split at h
   ·rename_i hok
    simp only [Bool.and_eq_true,beq_iff_eq,decide_eq_true_eq] at hok
    obtain ⟨⟨hst,hal⟩,hlo⟩:=hok
    have hi:i < H.length:=(List.getElem?_eq_some_iff.1 hrc).1
    obtain ⟨e1,T1,H1,h1,h2⟩:=exec_sound (hcx H.length lo rc.g true) hL hmx assign (false :: rc.path) (subC_child hcode rfl) _ H _ r h (Nat.le_refl _) (show lo≤H.length by omega)
    obtain ⟨r1,rfl,hr1,hrs,h3⟩:=beginK_spec h1
    have hl1:H.length≤H1.length:=h2.len
    obtain ⟨e2,T2,H2,h4,h5⟩:=exec_sound (hcx H1.length lo rc.g true) hL hmx body (true :: rc.path) (subC_child hcode rfl) _ _ _ r h3 (by simp) (show lo≤H1.length by omega)
    obtain ⟨r2,j,b,st,hr2,h6,rfl,rfl,rfl⟩:=endK_spec h4
    have hl2:H1.length≤H2.length:=h5.len
    refine ⟨_,_,h6,by rw [List.length_set];omega,fun _ q hq=> ?_,fun B0 w0 D α w xs hO hD hargs=> ?_⟩
    ·rw [List.getElem?_set_ne (by omega),h5.keep q hq,List.getElem?_set_ne (by omega),h2.keep q hq]
    ·obtain ⟨L,l1,l2,l3,l4, ⟨f',ps',l5⟩,l6⟩:=hO.blk i _ hD hrc
     rw [hcode] at l5
     obtain ⟨rfl,rfl⟩:assign=L.assign∧body=L.body:=by cases l5;exact ⟨rfl,rfl⟩
     have hlen:=RelL.len hargs
     rw [Array.length_toList] at hlen
     have hlt:∀ i,D i→i < H.length:=fun i hi=>by obtain ⟨k,hk⟩:=hO.lt i hi;exact (List.getElem?_eq_some_iff.1 hk).1
     refine ⟨L.fn,_,L.assign,L.body,run_yield l1 (by rw [l4,← hal,hlen]), ?_⟩
     refine roundIn_of_wpIn (F:=Fence.wide) trivial ?_
     have htm:((L.params.zip xs).foldl (fun tmps (t,a)=>tmps.setIfInBounds t a) L.tmps)=(rc.params.toList.zip xs.toList).foldl (fun (tmps:Array Value) (p:Tmp×Value)=>tmps.setIfInBounds p.1 p.2) L.tmps:=by
      rw [← Array.foldl_toList,Array.toList_zip,l4]
     rw [htm]
     have hs:Sim P B0 w0 ⟨H.length,D,α,OwnD D α (H[·]?),w⟩ (setParams rc.T rc.params.toList args) (H[·]?) { tmps:=(rc.params.toList.zip xs.toList).foldl (fun (tmps:Array Value) (p:Tmp×Value)=>tmps.setIfInBounds p.1 p.2) L.tmps,defers:= [] } w:=
      ⟨⟨Nat.le_refl _, [],rfl,List.nodup_nil,fun r h=>by cases h⟩,D,α,hO,params_rel _ _ _ _ _ l6 hargs,Goes.refl _ _ _ _,fun i hi _=>hi⟩
     refine h2.wp (some (α i).1) (fun h=>by cases h) B0 w0 ⟨H.length,D,α,OwnD D α (H[·]?),w⟩ _ hO.below.size (Nat.le_refl _) hlt (fun a1 w1 hs1=> ?_) _ w hs
     obtain ⟨hM1,D1,α1,hO1,hT1,hG1,hN1⟩:=hs1
     have hα1:α1 i=α i:=hG1.same i hD
     obtain ⟨L1,m1,m2,m3,m4,m5,m6,hO1',hG1'⟩:=loop_upd hO1 (hG1.le i hD) hr1 .busy r1.pend
     have hi1:i < H1.length:=by omega
     rw [← set_upd H1 hi1,hα1,← m3] at hO1' hG1'
     rw [hα1] at m1
     refine ⟨_,run_beginRound m1 (m2.trans hrs), ?_⟩
     refine h5.wp (some (α i).1) (fun h=>by cases h) B0 w0 ⟨H.length,D,α,OwnD D α (H[·]?),w⟩ _ hO.below.size hl1 (fun i hi=>Nat.lt_of_lt_of_le (hlt i hi) hl1) (fun a2 w2 hs2=> ?_) _ _ ⟨hM1.mono hO1 hO1' hG1',D1,α1,hO1',RelL.mono _ _ (hG1'.keeps B0) hT1,hG1.trans hG1',hN1⟩
     obtain ⟨hM2,D2,α2,hO2,hT2,hG2,hN2⟩:=hs2
     have hα2:α2 i=α i:=hG2.same i hD
     obtain ⟨L2,n1,n2,n3,n4,n5,n6,hO2',hG2'⟩:=loop_upd hO2 (hG2.le i hD) hr2 (if j.isNone then .ready else .done) j
     have hi2:i < H2.length:=by omega
     rw [← set_upd H2 hi2,hα2] at hO2' hG2'
     rw [hα2] at n1
     have hend:=run_endRound (P:=P) (j.map Jump.code) n1
     have hjn:(j.map Jump.code).isNone=j.isNone:=by cases j <;> rfl
     rw [hjn] at hend
     refine round_post hend ⟨_,D2,α2,rfl,hO2',fun q hq=> ?_,hG2.trans hG2',rfl⟩
     by_cases hq':q < H.length
     ·exact .inl (hN2 q hq hq')
     ·obtain ⟨k,hk⟩:=hO2'.lt q hq
      have:=(List.getElem?_eq_some_iff.1 hk).1
      exact .inr ⟨by omega,this⟩
   ·cases h
  ·cases h
 ·cases h
theorem cx_ok {E:Env} (hC:Meets P E.C) (hL:LoopsOk P E) (hmx:P.follows .mixedOrders=true) (u:Nat):∀ (d fb lo:Nat) (g:FuncId) (rd:Bool),CxOk (R:=R) ⟨P,E,callF P E u d,yieldF P E u d,u,fb,lo,g,rd⟩
 | 0,fb,lo,g,rd=> ⟨hC,fun lo g args H k r _ h=>by simp [callF] at h,fun lo i args H k r h=>by simp [yieldF] at h⟩
 | d+1,fb,lo,g,rd=> ⟨hC,call_sound (cx_ok hC hL hmx u d) hL hmx,yield_sound (cx_ok hC hL hmx u d) hL hmx⟩
theorem callA_sound {E:Env} (hC:Meets P E.C) (hL:LoopsOk P E) (hmx:P.follows .mixedOrders=true) {u d:Nat} {g:FuncId} {args:List AV} {v:AV} (hok:okFn P g=true) (h:callA P E u d g args=some v) (B:Nat→Prop) (w:World) (xs:Array Value) (hB:∀ b,B b→b < w.heap.size∧∀ ds,w.heap[b]?≠some (.deferred ds)) (hargs:RelL P NoA B w args NoD xs.toList):
  Calls P g xs w fun e w'=>∃ y,e= .returned y∧Below w.heap.size w w'∧v.Rel P NoA B w' NoD y:=by
 unfold callA at h
 cases d with
 | zero=>simp [callF] at h
 | succ d=>
  obtain ⟨v0,H',h1,h2,_,h4⟩:=call_sound (R:=AV) (cx_ok hC hL hmx u d) hL hmx 0 g args [] _ v hok h
  obtain ⟨v',h5,h6⟩:=freeze_sound 8 v0 some v h1
  cases h5
  have hown:∀ b,Own B NoD NoA (([]:Hp)[·]?) b↔B b:=fun b=> ⟨fun h=>h.elim id (fun ⟨_,_,h,_⟩=>h.elim), .inl⟩
  have hO:Ok P B w NoD NoA (([]:Hp)[·]?) w:= ⟨fun i hi=>hi.elim,Below.refl _ _,hB,fun b _ ⟨_,_,h,_⟩=>h,fun i hi=>hi.elim,fun i j k l hi=>hi.elim,fun i k hi=>hi.elim,fun i k hi=>hi.elim⟩
  have hk:Keeps NoD NoD NoA NoA B (Own B NoD NoA (([]:Hp)[·]?)) w w:= ⟨fun _ h=>h,fun _ _=>rfl,fun b cs ty fr e1 e2=> ⟨fun h=>e2 ((hown b).1 h),e1⟩⟩
  have:=h4 B w NoD NoA w xs hO (RelL.mono _ _ hk hargs)
  refine (callsIn_wide.1 this).mono ?_
  rintro e w' ⟨y,D',α',rfl,hO',_,hG,hr⟩
  obtain ⟨hO1,hG1⟩:=ok_froz (frozIds H' 8 [v0]) hO'
  have h7:=h6 hO1 (fun i c ty st hi hst=>froz_frozen _ H' i c ty (hst.elim (fun e=> .inr ⟨by rw [hi,e.1],e.2⟩) (fun e=> .inl (by rw [hi,e])))) y (AV.Rel.mono _ _ (hG1.keeps B) hr)
  exact ⟨y,rfl,hO'.below,noD_both (fun b hb=> .inl hb) h7⟩
end
end Go.V
namespace Go.V
open Go Go.RowKit
noncomputable section
def cx {R:Type} (P:Program) (E:Env) (g:FuncId):Cx R:= ⟨P,E,callF P E 200 40,yieldF P E 200 40,200,0,0,g,false⟩
def roundA (P:Program) (E:Env) (g:FuncId) (keep:List Nat) (c:Code) (p:List Bool) (T:List AV) (H:Hp):Option (Ex×List AV×Hp):=
 exec (cx P E g) c p T H fun e T H=>gcA keep T H fun T H=>some (e,T,H)
end
section
variable {P : Program} {E : Env} {g : FuncId}
theorem ends_gc {c:Code} {T:List AV} {H:Hp} {e:Ex} {T1:List AV} {H1:Hp} {keep:List Nat} {T':List AV} {H':Hp} (h:Ends P false 0 0 c T H e T1 H1) (hg:gcA keep T1 H1 (fun T H=>some (T,H))=some (T',H')):Ends P false 0 0 c T H e T' H':=by
 unfold gcA gcGo at hg
 simp only [Bool.cond_eq_ite] at hg
 split at hg
 ·rename_i hok
  cases hg
  refine ⟨Nat.zero_le _,fun q hq=>by omega,fun ro hro B0 w0 F Q hw0 hfn hFD hQ a w hs=>h.wp ro hro B0 w0 F Q hw0 hfn hFD (fun a' w' hs'=>hQ a' w' ?_) a w hs⟩
  have hF0:∀ i,¬ F.D i:=fun i hi=>by have:=hFD i hi;omega
  obtain ⟨hM,D,α,hO,hT,hG,hN⟩:=hs'
  exact sim_gc hok hF0 (by omega) ⟨hM,D,α,hO,mask_rel hT,hG,hN⟩
 ·cases hg
theorem round_ends (hC:Meets P E.C) (hL:LoopsOk P E) (hmx:P.follows .mixedOrders=true) {keep:List Nat} {c:Code} {p:List Bool} (hp:subC P g p=some c) {T:List AV} {H:Hp} {e:Ex} {T':List AV} {H':Hp} (h:roundA P E g keep c p T H=some (e,T',H')):Ends P false 0 0 c T H e T' H':=by
 unfold roundA at h
 obtain ⟨e1,T1,H1,h1,h2⟩:=exec_sound (cx_ok hC hL hmx 200 40 0 0 g false) hL hmx c p hp T H _ _ h (Nat.zero_le _) (Nat.le_refl _)
 unfold gcA gcGo at h1
 simp only [Bool.cond_eq_ite] at h1
 split at h1
 ·rename_i hok
  cases h1
  refine ends_gc (keep:=keep) h2 ?_
  unfold gcA gcGo
  simp only [Bool.cond_eq_ite]
  rw [if_pos hok]
 ·cases h1
def LoopTo (P:Program) (c:Code) (T:List AV) (H:Hp) (e:Ex) (T':List AV) (H':Hp):Prop:=∃ n,Rounds P false 0 0 c e T' H' n T H
theorem LoopTo.more {c:Code} {T:List AV} {H:Hp} {T1:List AV} {H1:Hp} {e:Ex} {T':List AV} {H':Hp} (h:Ends P false 0 0 c T H .normal T1 H1) (k:LoopTo P c T1 H1 e T' H'):LoopTo P c T H e T' H':=by
 obtain ⟨n,k⟩:=k
 exact ⟨n+1, .more h k⟩
theorem LoopTo.last {c:Code} {T:List AV} {H:Hp} {e:Ex} {T':List AV} {H':Hp} (h:Ends P false 0 0 c T H e T' H') (he:e≠ .normal):LoopTo P c T H e T' H':= ⟨0, .last h he⟩
theorem LoopTo.ends {c:Code} {T:List AV} {H:Hp} {e:Ex} {T':List AV} {H':Hp} (h:LoopTo P c T H e T' H'):Ends P false 0 0 (.loop c) T H e T' H':=by
 obtain ⟨n,h⟩:=h
 exact h.ends
def Entry (P:Program) (g:FuncId) (f:List AV→Option (Bool×AV)):Prop:=
 ∀ args r,f args=some (true,r)→∀ (B:Nat→Prop) (w:World) (xs:Array Value),(∀ b,B b→b < w.heap.size∧∀ ds,w.heap[b]?≠some (.deferred ds))→RelL P NoA B w args NoD xs.toList→
  Calls P g xs w fun e w'=>∃ y,e= .returned y∧Below w.heap.size w w'∧r.Rel P NoA B w' NoD y
theorem entry_of (hC:Meets P E.C) (hL:LoopsOk P E) (hmx:P.follows .mixedOrders=true) (hok:okFn P g=true) {u d:Nat} {f:List AV→Option (Bool×AV)} (h:∀ args r,f args=some (true,r)→callA P E u d g args=some r):Entry P g f:=
 fun args r hr B w xs hB hx=>callA_sound hC hL hmx hok (h args r hr) B w xs hB hx
theorem meets_none (P:Program):Meets P fun _ _=>none:=fun g args r h=>by cases h
abbrev LTab:=FuncId→Nat→List Bool→Option (List Nat×(List AV→Hp→Option (Bool×Ex×List AV×Hp)))
theorem loops_none {P:Program} {C:FuncId→List AV→Option (Bool×AV)} {K:FuncId→Bool} :LoopsOk P ⟨C,K,fun _ _ _=>none⟩:=fun g n p s T H e T' H' h=>by cases h
def addLn (n:Nat) (g:FuncId) (p:List Bool) (keep:List Nat) (f:List AV→Hp→Option (Bool×Ex×List AV×Hp)) (L:LTab):LTab:=
 fun g' n' p'=>bif g'==g&&n'==n&&p'==p then some (keep,f) else L g' n' p'
def addL (g:FuncId) (p:List Bool) (keep:List Nat) (f:List AV→Hp→Option (Bool×Ex×List AV×Hp)) (L:LTab):LTab:=addLn 0 g p keep f L
def addC (g:FuncId) (f:List AV→Option (Bool×AV)) (C:FuncId→List AV→Option (Bool×AV)):FuncId→List AV→Option (Bool×AV):=
 fun g' args=>bif g'==g then f args else C g' args
def noC:FuncId→List AV→Option (Bool×AV):=fun _ _=>none
def noL:LTab:=fun _ _ _=>none
def LOk (P:Program) (L:LTab):Prop:=∀ g n p s T H e T' H',L g n p=some s→s.2 T H=some (true,e,T',H')→∃ body,subC P g p=some (.loop body)∧Ends P false n 0 (.loop body) T H e T' H'
theorem LOk.ok {L:LTab} (h:LOk P L) {C:FuncId→List AV→Option (Bool×AV)} {K:FuncId→Bool} :LoopsOk P ⟨C,K,L⟩:=h
theorem LOk.none:LOk P noL:=fun g n p s T H e T' H' h=>by cases h
theorem LOk.add2n {L:LTab} (hL:LOk P L) {n:Nat} {g:FuncId} {p:List Bool} {keep:List Nat} {f:List AV→Hp→Option (Bool×Ex×List AV×Hp)} {body:Code} (hb:subC P g p=some (.loop body)) (h:∀ T H e T' H',f T H=some (true,e,T',H')→Ends P false n 0 (.loop body) T H e T' H'):LOk P (addLn n g p keep f L):=by
 intro g' n' p' s T H e T' H' hg hs
 unfold addLn at hg
 rw [Bool.cond_eq_ite] at hg
 split at hg
 ·rename_i hc
  rw [Bool.and_eq_true,Bool.and_eq_true,beq_iff_eq,beq_iff_eq,beq_iff_eq] at hc
  obtain ⟨⟨rfl,rfl⟩,rfl⟩:=hc
  cases hg
  exact ⟨body,hb,h T H e T' H' hs⟩
 ·exact hL g' n' p' s T H e T' H' hg hs
theorem LOk.add2 {L:LTab} (hL:LOk P L) {g:FuncId} {p:List Bool} {keep:List Nat} {f:List AV→Hp→Option (Bool×Ex×List AV×Hp)} {body:Code} (hb:subC P g p=some (.loop body)) (h:∀ T H e T' H',f T H=some (true,e,T',H')→Ends P false 0 0 (.loop body) T H e T' H'):LOk P (addL g p keep f L):=hL.add2n hb h
theorem LOk.add {L:LTab} (hL:LOk P L) {g:FuncId} {p:List Bool} {keep:List Nat} {f:List AV→Hp→Option (Bool×Ex×List AV×Hp)} {body:Code} (hb:subC P g p=some (.loop body)) (h:∀ T H e T' H',f T H=some (true,e,T',H')→LoopTo P body T H e T' H'):LOk P (addL g p keep f L):=hL.add2 hb fun T H e T' H' hs=>(h T H e T' H' hs).ends
noncomputable def roundB (P:Program) (E:Env) (n:Nat) (g:FuncId) (keep:List Nat) (c:Code) (p:List Bool) (T:List AV) (H:Hp):Option (Ex×List AV×Hp):=
 bif decide (n≤H.length) then exec ⟨P,E,callF P E 200 40,yieldF P E 200 40,200,n,0,g,false⟩ c p T H fun e T H=>some (e,maskA keep T,H) else Option.none
theorem round_endsB (hC:Meets P E.C) (hL:LoopsOk P E) (hmx:P.follows .mixedOrders=true) {n:Nat} {keep:List Nat} {c:Code} {p:List Bool} (hp:subC P g p=some c) {T:List AV} {H:Hp} {e:Ex} {T':List AV} {H':Hp} (h:roundB P E n g keep c p T H=some (e,T',H')):Ends P false n 0 c T H e T' H':=by
 unfold roundB at h
 rw [Bool.cond_eq_ite] at h
 split at h
 ·rename_i hn
  rw [decide_eq_true_eq] at hn
  obtain ⟨e1,T1,H1,h1,h2⟩:=exec_sound (cx_ok hC hL hmx 200 40 n 0 g false) hL hmx c p hp T H _ _ h hn (Nat.zero_le _)
  cases h1
  exact ⟨h2.len,h2.keep,fun ro hro B0 w0 F Q hw0 hfn hFD hQ a w hs=>h2.wp ro hro B0 w0 F Q hw0 hfn hFD (fun a' w' hs'=>hQ a' w' (by
   obtain ⟨hM,D,α,hO,hT,hG,hN⟩:=hs'
   exact ⟨hM,D,α,hO,mask_rel hT,hG,hN⟩)) a w hs⟩
 ·cases h
def LoopToB (P:Program) (n:Nat) (c:Code) (T:List AV) (H:Hp) (e:Ex) (T':List AV) (H':Hp):Prop:=∃ m,Rounds P false n 0 c e T' H' m T H
theorem LoopToB.more {n:Nat} {c:Code} {T:List AV} {H:Hp} {T1:List AV} {H1:Hp} {e:Ex} {T':List AV} {H':Hp} (h:Ends P false n 0 c T H .normal T1 H1) (k:LoopToB P n c T1 H1 e T' H'):LoopToB P n c T H e T' H':=by
 obtain ⟨m,k⟩:=k
 exact ⟨m+1, .more h k⟩
theorem LoopToB.last {n:Nat} {c:Code} {T:List AV} {H:Hp} {e:Ex} {T':List AV} {H':Hp} (h:Ends P false n 0 c T H e T' H') (he:e≠ .normal):LoopToB P n c T H e T' H':= ⟨0, .last h he⟩
theorem LoopToB.ends {n:Nat} {c:Code} {T:List AV} {H:Hp} {e:Ex} {T':List AV} {H':Hp} (h:LoopToB P n c T H e T' H'):Ends P false n 0 (.loop c) T H e T' H':=by
 obtain ⟨m,h⟩:=h
 exact h.ends
theorem Meets.add {C:FuncId→List AV→Option (Bool×AV)} (hC:Meets P C) {f:List AV→Option (Bool×AV)} (h:Entry P g f):Meets P (addC g f C):=by
 intro g' args r hr
 unfold addC at hr
 rw [Bool.cond_eq_ite] at hr
 split at hr
 ·rename_i hc
  rw [beq_iff_eq] at hc
  subst hc
  exact h args r hr
 ·exact hC g' args r hr
theorem Ends.pre {n:Nat} {c:Code} {T T0:List AV} {H:Hp} {e:Ex} {T':List AV} {H':Hp} (h:Ends P false n 0 c T0 H e T' H') (ht:∀ (α:Nat→Nat×Nat) (B:Nat→Prop) (w:World) (D:Nat→Prop) (ys:List Value),RelL P α B w T D ys→RelL P α B w T0 D ys):Ends P false n 0 c T H e T' H':=
 ⟨h.len,h.keep,fun ro hro B0 w0 F Q hw0 hfn hFD hQ a w hs=>h.wp ro hro B0 w0 F Q hw0 hfn hFD hQ a w (by obtain ⟨hM,D,α,hO,hT,hG,hN⟩:=hs;exact ⟨hM,D,α,hO,ht _ _ _ _ _ hT,hG,hN⟩)⟩
theorem lst_flag {fl:Bool} {t:TypeId} {m:Nat} {f:Nat→Nat→AV} {α:Nat→Nat×Nat} {B:Nat→Prop} {w:World} {D:Nat→Prop} {x:Value} (h:(AV.lst fl t m f).Rel P α B w D x):(AV.lst false t m f).Rel P α B w D x:=by
 obtain ⟨A,cap,h1,h2,h3,h4⟩:=h
 exact ⟨A,cap,h1,h2,(fun h=>by cases h),h4⟩
def slotAt:List (Nat×AV)→Nat→AV
 | [],_=> .any
 | p :: l,i=>bif p.1==i then p.2 else slotAt l i
def slots (n:Nat) (l:List (Nat×AV)):List AV:=(List.range n).map (slotAt l)
theorem slots_rel {n:Nat} {l:List (Nat×AV)} {T:List AV} {α:Nat→Nat×Nat} {B:Nat→Prop} {w:World} {D:Nat→Prop} {ys:List Value} (hn:T.length=n) (h:∀ p ∈ l,∀ y,(lget T p.1).Rel P α B w D y→p.2.Rel P α B w D y) (hr:RelL P α B w T D ys):RelL P α B w (slots n l) D ys:=by
 unfold slots
 refine RelL.of_get (by rw [RelL.len hr,List.length_map,List.length_range,hn]) (fun i v hv=> ?_)
 rw [List.getElem?_map,Option.map_eq_some_iff] at hv
 obtain ⟨j,hj,rfl⟩:=hv
 obtain ⟨hj1,hj2⟩:=List.getElem?_eq_some_iff.1 hj
 rw [List.getElem_range] at hj2
 subst hj2
 rw [List.length_range] at hj1
 obtain ⟨y,h1,h2⟩:=RelL.get hr (List.getElem?_eq_getElem (show i < T.length by omega))
 refine ⟨y,h1, ?_⟩
 rw [← lget_some (List.getElem?_eq_getElem (show i < T.length by omega))] at h2
 clear hj h1 hr
 induction l with
 | nil=>trivial
 | cons p l ih=>
  unfold slotAt
  cases hp:(p.1==i) with
  | true=>
   rw [beq_iff_eq] at hp
   subst hp
   exact h p List.mem_cons_self y h2
  | false=>exact ih (fun q hq=>h q (List.mem_cons_of_mem _ hq))
end
end Go.V
noncomputable section
namespace Go.V
open Go Go.RowKit
section
variable {P : Program} {B0 : Nat → Prop} {w0 w : World} {F : Fr}
def sameB (P:Program):Blk→Blk→Prop
 | .row c ty st, .row c' ty' st'=>(c.len=c'.len∧∀ (α:Nat→Nat×Nat) (B:Nat→Prop) (w:World) (D:Nat→Prop) (ys:List Value),RelL P α B w c.avs D ys→RelL P α B w c'.avs D ys)∧ty=ty'∧st=st'
 | .loop r, .loop r'=>r=r'
 | _,_=>False
theorem sameB.refl (k:Blk):sameB P k k:=by cases k <;> first | exact ⟨⟨rfl,fun _ _ _ _ _ h=>h⟩,rfl,rfl⟩ | exact rfl
theorem sameB.live {k k':Blk} (h:sameB P k k'):k.isLive=k'.isLive∧k.isFroz=k'.isFroz:=by
 cases k with
 | row c ty st=>
  cases k' with
  | row c' ty' st'=>
   obtain ⟨_,_,rfl⟩:=h
   cases st <;> exact ⟨rfl,rfl⟩
  | loop r=>exact h.elim
 | loop r=>
  cases k' with
  | row c' ty' st'=>exact h.elim
  | loop r'=>exact ⟨rfl,rfl⟩
def sameH (P:Program) (H H':Hp):Prop:=H.length=H'.length∧∀ (i:Nat) (k k':Blk),H[i]? =some k→H'[i]? =some k'→sameB P k k'
theorem sameH.get {H H':Hp} (h:sameH P H H') {i:Nat} {k':Blk} (hk:H'[i]? =some k'):∃ k,H[i]? =some k∧sameB P k k':=by
 have hi:i < H.length:=by rw [h.1];exact (List.getElem?_eq_some_iff.1 hk).1
 exact ⟨H[i],List.getElem?_eq_getElem hi,h.2 i _ _ (List.getElem?_eq_getElem hi) hk⟩
theorem sameH.get' {H H':Hp} (h:sameH P H H') {i:Nat} {k:Blk} (hk:H[i]? =some k):∃ k',H'[i]? =some k'∧sameB P k k':=by
 have hi:i < H'.length:=by rw [← h.1];exact (List.getElem?_eq_some_iff.1 hk).1
 exact ⟨H'[i],List.getElem?_eq_getElem hi,h.2 i _ _ hk (List.getElem?_eq_getElem hi)⟩
theorem sameH_own {H H':Hp} (h:sameH P H H') (D:Nat→Prop) (α:Nat→Nat×Nat):OwnD D α (H'[·]?)=OwnD D α (H[·]?):=by
 funext b
 refine propext ⟨?_, ?_⟩
 ·rintro ⟨i,k,h1,h2,h3,h4⟩
  obtain ⟨k',h5,h6⟩:=h.get h2
  exact ⟨i,k',h1,h5,by rw [h6.live.1];exact h3,h4⟩
 ·rintro ⟨i,k,h1,h2,h3,h4⟩
  obtain ⟨k',h5,h6⟩:=h.get' h2
  exact ⟨i,k',h1,h5,by rw [← h6.live.1];exact h3,h4⟩
theorem sim_same {T:List AV} {H H':Hp} (hs:sameH P H H') {a:Act} (h:Sim P B0 w0 F T (H[·]?) a w):Sim P B0 w0 F T (H'[·]?) a w:=by
 obtain ⟨hM,D,α,hO,hT,hG,hN⟩:=h
 have e1:=sameH_own hs D α
 have e2:Own B0 D α (H'[·]?)=Own B0 D α (H[·]?):=by unfold Own;rw [e1]
 refine ⟨hM,D,α, ⟨?_,hO.below,hO.old,by rw [e1];exact hO.sep,hO.fresh, ?_, ?_, ?_⟩,by rw [e2];exact hT,by rw [e1];exact hG,hN⟩
 ·intro i hi
  obtain ⟨k,hk⟩:=hO.lt i hi
  obtain ⟨k',h1,_⟩:=hs.get' hk
  exact ⟨k',h1⟩
 ·intro i j k l hi hj h1 h2 h3 h4 h5
  obtain ⟨k',g1,s1⟩:=hs.get h1
  obtain ⟨l',g2,s2⟩:=hs.get h2
  rw [← s1.live.1] at h3
  rw [← s2.live.1] at h4
  exact hO.inj i j k' l' hi hj g1 g2 h3 h4 h5
 ·intro i k hi h1 h2
  obtain ⟨k',g1,s1⟩:=hs.get h1
  rw [← s1.live.2] at h2
  rw [e2]
  exact hO.frz i k' hi g1 h2
 ·intro i k hi h1
  obtain ⟨k',g1,s1⟩:=hs.get h1
  rw [e2]
  have hb:=hO.blk i k' hi g1
  cases k' with
  | row c ty st=>
   cases k with
   | row c' ty' st'=>
    obtain ⟨⟨hl,q1⟩,rfl,rfl⟩:=s1
    rcases hb with hb | ⟨cs,fr,h1,h2,h3,h4,h5⟩
    ·exact .inl hb
    ·exact .inr ⟨cs,fr,h1,h2,h3,by rw [← hl];exact h4,by rw [← hl];exact q1 _ _ _ _ _ h5⟩
   | loop r=>exact s1.elim
  | loop r=>
   cases k with
   | row c' ty' st'=>exact s1.elim
   | loop r'=>
    have s1:r=r':=s1
    subst s1
    exact hb
theorem sameH.nil:sameH P [] []:= ⟨rfl,fun i k k' h=>by cases h⟩
theorem sameH.cons {k k':Blk} {H H':Hp} (h:sameB P k k') (hs:sameH P H H'):sameH P (k :: H) (k' :: H'):=by
 refine ⟨by rw [List.length_cons,List.length_cons,hs.1],fun i l l' h1 h2=> ?_⟩
 cases i with
 | zero=>cases h1;cases h2;exact h
 | succ i=>exact hs.2 i l l' h1 h2
theorem Ends.preH {n:Nat} {c:Code} {T:List AV} {H H0:Hp} {e:Ex} {T':List AV} {H':Hp} (h:Ends P false n 0 c T H0 e T' H') (hs:sameH P H H0):Ends P false n 0 c T H e T' H':=
 ⟨h.len,fun q hq=>by omega,fun ro hro B0 w0 F Q hw0 hfn hFD hQ a w hs'=>h.wp ro hro B0 w0 F Q hw0 hfn hFD hQ a w (sim_same hs hs')⟩
theorem LoopTo.preH {c:Code} {T:List AV} {H H0:Hp} {e:Ex} {T':List AV} {H':Hp} (h:LoopTo P c T H0 e T' H') (hs:sameH P H H0):LoopTo P c T H e T' H':=by
 obtain ⟨n,h⟩:=h
 cases h with
 | last h he=>exact ⟨0, .last (h.preH hs) he⟩
 | more h k=>exact ⟨_, .more (h.preH hs) k⟩
end
def isRat:Value→Value→Value→Bool
 | .bool _, .string _, .string _=>true
 | _,_,_=>false
theorem isRat_out {x y z:Value} (h:isRat x y z=true):x= .bool (asB x)∧y= .string (asS y)∧z= .string (asS z):=by
 unfold isRat at h
 split at h
 ·exact ⟨rfl,rfl,rfl⟩
 ·cases h
def av3' (x y z:Value):AV:= .agg [.val (.bool (asB x)), .val (.string (asS y)), .val (.string (asS z))]
def av6' (x y z u v t:Value):AV:= .agg [.val (.bool (asB x)), .val (.string (asS y)), .val (.string (asS z)), .val (.bool (asB u)), .val (.string (asS v)), .val (.string (asS t))]
def andC (c:Bool):Option (Bool×AV)→Option (Bool×AV)
 | some r=>some (c&&r.1,r.2)
 | none=>none
theorem andC_out {c:Bool} {o:Option (Bool×AV)} {r:AV} (h:andC c o=some (true,r)):c=true∧o=some (true,r):=by
 cases o with
 | none=>cases h
 | some q=>
  simp only [andC,Option.some.injEq,Prod.mk.injEq,Bool.and_eq_true] at h
  obtain ⟨⟨h1,h2⟩,h3⟩:=h
  refine ⟨h1, ?_⟩
  rw [← h2,← h3]
def gR (f:List AV→Option (Bool×AV)):List AV→Option (Bool×AV):=fun args=>match args with
 | .agg [.val x, .val y, .val z] :: l=>andC (isRat x y z) (f (av3' x y z :: l))
 | _=>none
def gRR (f:List AV→Option (Bool×AV)):List AV→Option (Bool×AV):=fun args=>match args with
 | .agg [.val x, .val y, .val z] :: .agg [.val u, .val v, .val t] :: l=>andC (isRat x y z&&isRat u v t) (f (av3' x y z :: av3' u v t :: l))
 | _=>none
def gP (f:List AV→Option (Bool×AV)):List AV→Option (Bool×AV):=fun args=>match args with
 | .agg [.val x, .val y, .val z, .val u, .val v, .val t] :: l=>andC (isRat x y z&&isRat u v t) (f (av6' x y z u v t :: l))
 | _=>none
def gPP (f:List AV→Option (Bool×AV)):List AV→Option (Bool×AV):=fun args=>match args with
 | .agg [.val x, .val y, .val z, .val u, .val v, .val t] :: .agg [.val x2, .val y2, .val z2, .val u2, .val v2, .val t2] :: l=>andC (isRat x y z&&isRat u v t&&(isRat x2 y2 z2&&isRat u2 v2 t2)) (f (av6' x y z u v t :: av6' x2 y2 z2 u2 v2 t2 :: l))
 | _=>none
section
variable {P : Program} {g : FuncId} {f : List AV → Option (Bool × AV)}
theorem Entry.less {f':List AV→Option (Bool×AV)} (h:Entry P g f) (hf:∀ args r,f' args=some (true,r)→f args=some (true,r)):Entry P g f':=fun args r hr=>h args r (hf args r hr)
theorem Entry.gR (h:Entry P g f):Entry P g (gR f):=h.less fun args r hr=>by
 unfold V.gR at hr
 split at hr
 ·obtain ⟨h1,h2⟩:=andC_out hr
  obtain ⟨e1,e2,e3⟩:=isRat_out h1
  rw [e1,e2,e3];exact h2
 ·cases hr
theorem Entry.gRR (h:Entry P g f):Entry P g (gRR f):=h.less fun args r hr=>by
 unfold V.gRR at hr
 split at hr
 ·obtain ⟨h1,h2⟩:=andC_out hr
  rw [Bool.and_eq_true] at h1
  obtain ⟨e1,e2,e3⟩:=isRat_out h1.1
  obtain ⟨e4,e5,e6⟩:=isRat_out h1.2
  rw [e1,e2,e3,e4,e5,e6];exact h2
 ·cases hr
theorem Entry.gP (h:Entry P g f):Entry P g (gP f):=h.less fun args r hr=>by
 unfold V.gP at hr
 split at hr
 ·obtain ⟨h1,h2⟩:=andC_out hr
  rw [Bool.and_eq_true] at h1
  obtain ⟨e1,e2,e3⟩:=isRat_out h1.1
  obtain ⟨e4,e5,e6⟩:=isRat_out h1.2
  rw [e1,e2,e3,e4,e5,e6];exact h2
 ·cases hr
theorem Entry.gPP (h:Entry P g f):Entry P g (gPP f):=h.less fun args r hr=>by
 unfold V.gPP at hr
 split at hr
 ·obtain ⟨h1,h2⟩:=andC_out hr
  rw [Bool.and_eq_true,Bool.and_eq_true,Bool.and_eq_true] at h1
  obtain ⟨e1,e2,e3⟩:=isRat_out h1.1.1
  obtain ⟨e4,e5,e6⟩:=isRat_out h1.1.2
  obtain ⟨d1,d2,d3⟩:=isRat_out h1.2.1
  obtain ⟨d4,d5,d6⟩:=isRat_out h1.2.2
  rw [e1,e2,e3,e4,e5,e6,d1,d2,d3,d4,d5,d6];exact h2
 ·cases hr
end
def vrow (sz:Nat) (vs:List Value):Nat→Nat→AV:=fun j q=> .val (vs.getD (j*sz+q) undef)
theorem rowV_at {sz m:Nat} {f:Nat→Nat→AV} (h:okV sz m f=true) {j q:Nat} (hj:j < m) (hq:q < sz):f j q=vrow sz (rowV sz m f) j q:=by
 have hi:j*sz+q < m*sz:=by
  have:(j+1)*sz≤m*sz:=Nat.mul_le_mul_right _ hj
  rw [Nat.add_mul,Nat.one_mul] at this
  omega
 have h1:(j*sz+q) / sz=j:=by rw [Nat.mul_comm,Nat.mul_add_div (by omega),Nat.div_eq_of_lt hq,Nat.add_zero]
 have h2:(j*sz+q) % sz=q:=by rw [Nat.mul_comm,Nat.mul_add_mod,Nat.mod_eq_of_lt hq]
 have h3:=List.all_eq_true.1 h (j*sz+q) (List.mem_range.2 hi)
 rw [h1,h2] at h3
 unfold vrow rowV
 rw [List.getD_eq_getElem?_getD,List.getElem?_map,List.getElem?_range hi,Option.map_some,Option.getD_some,h1,h2]
 cases hf:f j q with
 | val v=>rfl
 | _=>rw [hf] at h3;exact absurd h3 (by simp [isVal])
theorem row_normV {P:Program} {t:TypeId} {sz m:Nat} {f:Nat→Nat→AV} {fl:Bool} {α:Nat→Nat×Nat} {B:Nat→Prop} {w:World} {D:Nat→Prop} {x:Value} (hc:P.cellsOf t=sz) (h:okV sz m f=true) (hx:(AV.lst fl t m f).Rel P α B w D x):(AV.lst false t m (vrow sz (rowV sz m f))).Rel P α B w D x:=by
 obtain ⟨A,cap,h1,h2,h3,h4⟩:=hx
 refine ⟨A,cap,h1,h2,(fun h=>by cases h), ?_⟩
 rcases h4 with h4 | ⟨b,o,cs,ty,fr,q1,q2,q3,q4⟩
 ·exact .inl h4
 ·refine .inr ⟨b,o,cs,ty,fr,q1,q2,q3,fun j k hj hk=> ?_⟩
  obtain ⟨y,e1,e2⟩:=q4 j k hj hk
  refine ⟨y,e1, ?_⟩
  rw [hc] at hk
  rw [← rowV_at h hj hk]
  exact e2
theorem rel_trj {P:Program} {t u:TypeId} {sz tz m n:Nat} {f g:Nat→Nat→AV} {fl fl':Bool} (hc:P.cellsOf t=sz) (hd:P.cellsOf u=tz) (h:okV sz m f=true) (k:okV tz n g=true) {α:Nat→Nat×Nat} {B:Nat→Prop} {w:World} {D:Nat→Prop} {ys:List Value} (hx:RelL P α B w [.lst fl t m f, .lst fl' u n g] D ys):RelL P α B w [.lst false t m (vrow sz (rowV sz m f)), .lst false u n (vrow tz (rowV tz n g))] D ys:=by
 obtain ⟨y,zs,rfl,h1,z,zs',rfl,h2,h3⟩:=hx
 exact ⟨y,_,rfl,row_normV hc h h1,z,_,rfl,row_normV hd k h2,h3⟩
end Go.V
end
