import Derived.Test.YtamcpiicmfielaaGreatZV1
import Derived.Lib.Builder
import Derived.Lib.UnsafeStr
import Derived.Laws.Externs
import Derived.RangeFuncSeq
import Derived.Scope
set_option linter.unusedVariables false
set_option linter.unusedSimpArgs false
namespace Go.V
open Go Go.RowKit
section
variable {R : Type} {P : Program} {ro : Option Nat} {T : List AV} {o : Oper} {H : Hp} {lo : Nat} {k : Kn R} {r : R}
theorem step_append {E:Env} {c:Call} (U:o.op= .call c) (O:c.callee= .builtin .append) (h:EJ P lo T c.args.toList c.argTypes.toList H k=some r):bf P ro T o H (fz E T H c) lo k r:=by
 unfold EJ at h
 split at h
 ·rename_i s x ts tx N Z
  have ep:fz E T H c= .some false (tid true (aA T s) ++ tid false (aA T x)):=by
   unfold fz
   rw [O]
   simp only [N]
  rw [ep]
  cases hint:xP P tx
  case true=>rw [hint,cond_true] at h;exact ack U O N Z hint h
  rw [hint,cond_false] at h
  unfold Jm at h
  split at h
  ·rename_i e eo
   have a1:=vo eo
   simp only [Bool.cond_eq_ite] at h
   split at h
   ·rename_i c3
    rw [Bool.and_eq_true] at c3
    obtain ⟨a0,a3⟩:=c3
    obtain ⟨cx,n,h,b5,a2⟩:=NY h
    unfold Jn at h
    simp only [Bool.cond_eq_ite] at h
    split at h
    ·-- to nil
     rename_i J
     have b1:∀ M,(M,true) ∈ tid true (aA T s)→M < H.length:=fun M I=>by rw [J] at I;simp [tid] at I
     unfold Jj at h
     simp only [Bool.cond_eq_ite] at h
     split at h
     ·rename_i j
      have j:=of_decide_eq_true j
      subst j
      exact E3 U O N Z a1 a0 a3 h a2 b1 (fun {D α B w u} G=>by rw [J] at G;exact ⟨none,0,0,G,Nat.le_refl _⟩)
     ·rename_i j
      have j:n≠0:=fun e=>j (decide_eq_true e)
      split at h
      ·rename_i a5
       split at h
       ·rename_i c' a4
        obtain ⟨a7,bD⟩:=wB a4 (Nat.zero_le _)
        refine E2 (m:=0) U O N Z a1 a0 a3 (c':=c') (cx:=cx) (by rw [Nat.zero_add];exact a5) j (by rw [Nat.zero_add];exact h) a2 (by rw [bD,b5,Nat.zero_add,Nat.zero_add]) b1 (fun {B0 w0 D α b6 w u} b7 b4 G=> ?_)
        rw [J] at G
        exact ⟨none,0, [], [],G,rfl,by simp,by rw [a7];rfl,rfl,fun a6 _=>by rw [show u= .slice none 0 0 from G];exact qy a6⟩
       ·cases h
      ·cases h
    ·-- to a slice of its own
     rename_i fl ev i off len J
     split at h
     ·rename_i b2
      rw [beq_iff_eq] at b2
      subst b2
      unfold Jk at h
      simp only [Bool.cond_eq_ite] at h
      split at h
      ·rename_i ab ty st b3
       have eh:=(List.getElem?_eq_some_iff.1 b3).1
       have c6:∀ M,(M,true) ∈ tid true (aA T s)→M < H.length:=fun M I=>by rw [J] at I;simp [tid] at I;omega
       split at h
       ·rename_i c2
        simp only [Bool.and_eq_true,decide_eq_true_eq,beq_iff_eq] at c2
        obtain ⟨⟨⟨⟨⟨rfl,rfl⟩,rfl⟩,c5⟩,a5⟩,en⟩:=c2
        split at h
        ·rename_i c' a4
         obtain ⟨a7,bD⟩:=wB a4 c5
         split at h
         ·rename_i b0
          subst b0
          split at h
          ·rename_i j
           have j:=of_decide_eq_true j
           subst j
           refine E3 U O N Z a1 a0 a3 h a2 c6 (fun {D α B w u} G=> ?_)
           rw [J] at G
           obtain ⟨_,cap,et,S,bx,_⟩:=G
           exact ⟨_,_,_,S,bx⟩
          ·rename_i j
           have j:n≠0:=fun e=>j (decide_eq_true e)
           refine E2 (m:=len) U O N Z a1 a0 a3 (c':=c') (cx:=cx) a5 j h a2 (by rw [bD,b5,Nat.add_mul]) c6 (fun {B0 w0 D α b6 w u} b7 b4 G=> ?_)
           rw [J] at G
           obtain ⟨dx,cap,et,S,bx,b0,b8⟩:=G
           have c8:b6 i=some (.row ab ty .live):=(b7 i true (by rw [J];simp [tid]) eh).trans b3
           obtain ⟨cs,fr,c7,ey,ez,eN,c0⟩:=kG b4 dx c8 rfl
           have eb:=ao.len c0
           rw [List.length_take,Array.length_toList,aC.eK] at eb
           have c4:((cs.toList.take ab.len).take (len*P.cellsOf ty)).length=len*P.cellsOf ty:=by
            rw [List.length_take,List.length_take,Array.length_toList];omega
           refine ⟨_,cap,(cs.toList.take ab.len).take (len*P.cellsOf ty),ab.a9.take (len*P.cellsOf ty),S,b0 rfl,c4,a7,ao.take c0 _,fun a6 ct=> ?_⟩
           rw [S]
           by_cases ec:len=0
           ·subst ec
            rw [qy a6]
            simp
           ·rcases b8 with b8 | ⟨rfl,b8⟩
            ·omega
            ·refine xH c4 (fun M y I=> ?_) a6 ct
             rw [List.getElem?_take] at I
             split at I
             ·rw [List.getElem?_take] at I
              split at I
              ·rw [Array.getElem?_toList] at I
               rw [fB,nk c7,Nat.zero_add]
               exact I
              ·cases I
             ·cases I
         ·split at h
          ·cases h
          ·rename_i ed
           exact ab3 U O N Z a1 a0 a3 a5 J b3 (fun h=>ed (decide_eq_true h)) c5 en a4 h a2
        ·cases h
       ·cases h
      ·cases h
     ·cases h
    ·-- to a row that has no room
     rename_i fl ev m f J
     have b1:∀ M,(M,true) ∈ tid true (aA T s)→M < H.length:=fun M I=>by rw [J] at I;simp [tid] at I
     split at h
     ·rename_i b2
      rw [Bool.and_eq_true,beq_iff_eq] at b2
      obtain ⟨rfl,rfl⟩:=b2
      unfold Ji at h
      simp only [Bool.cond_eq_ite] at h
      split at h
      ·rename_i j
       have j:=of_decide_eq_true j
       subst j
       refine E3 U O N Z a1 a0 a3 h a2 b1 (fun {D α B w u} G=> ?_)
       rw [J] at G
       obtain ⟨A,cap,S,bx,_⟩:=G
       exact ⟨_,_,_,S,bx⟩
      ·rename_i j
       have j:n≠0:=fun e=>j (decide_eq_true e)
       split at h
       ·rename_i a5
        obtain ⟨ab,c1,h⟩:=Nz h
        ·split at h
         ·rename_i c' a4
          have dy:ab.len=m*P.cellsOf e:=by rw [← aC.eK,Ep c1,Cm]
          obtain ⟨a7,bD⟩:=wB a4 (by omega)
          refine E2 (m:=m) U O N Z a1 a0 a3 (c':=c') (cx:=cx) a5 j h a2 (by rw [bD,b5,Nat.add_mul]) b1 (fun {B0 w0 D α b6 w u} b7 b4 G=> ?_)
          rw [J] at G
          obtain ⟨eu,ch⟩:=NC c1 G
          obtain ⟨A,cap,S,bx,b0,_⟩:=G
          refine ⟨A,cap,eu,ab.a9.take (m*P.cellsOf e),S,b0 rfl,ch.len,a7, ?_,fun a6 ct=>ch.cells a6 ct⟩
          rw [List.take_of_length_le (by rw [aC.eK,dy];exact Nat.le_refl _)]
          exact ch.rel
         ·cases h
       ·cases h
     ·cases h
    ·cases h
   ·cases h
  ·cases h
 ·cases h
theorem vv {v:AV} {b:bG} {l:List (Nat×Bool)} (I:k v (H ++ [b])=some r) (O:∀ m,(m,true) ∉ l) (M:∀ c,o.op≠ .defer c) (J:b.isLive=true)
  (N:∀ (B0:Nat→Prop) (w0:World) (h:Hf) (D:Nat→Prop) (α:Nat→Nat×Nat) (a:Act) (w:World),(∀ m b,(m,b) ∈ l→m < H.length→h m=H[m]?)→Ok P B0 w0 D α h w→(∀ x ∈ o.op.operands,(aA T x).Rel P α (Own B0 D α h) w D (a.eval x))→
   ∃ (j:World) (G:Obj) (sz:Nat) (x:Value),Below w.heap.size w j∧(∀ ds,G≠ .deferred ds)∧(execOp a.eval o).run P w= .ok (.value x) (j.alloc G)∧
    (∀ D' α' B' w',eJ D D' α α' (Own B0 D α h) B' w w'→w'.heap[j.heap.size]? =some G→cM P α' B' w' D' b (j.heap.size,sz))∧
    (∀ D' α' B' w',D' H.length→α' H.length=(j.heap.size,sz)→v.Rel P α' B' w' D' x)):
  bf P ro T o H (.some false l) lo k r:=
 ⟨v,_,I,fun S m U=>List.getElem?_append_left (by omega),fun B0 w0=>Cz (fun m h=>absurd h (O m)) M J (N B0 w0)⟩
theorem Er {D:Nat→Prop} {α:Nat→Nat×Nat} {B:Nat→Prop} {w:World} {c:aC} {cs:Array Value} {e:TypeId} {b sz:Nat} (J:w.heap[b]? =some (.cells cs e)) (I:cs.size=sz) (j:ao P α B w c.a9 D cs.toList):cM P α B w D (.row c e .live) (b,sz):=by
 have G:=ao.len j
 rw [Array.length_toList,aC.eK] at G
 refine .inr ⟨cs,(0,0),J,I,fun _ i _=>by simp,by omega, ?_⟩
 rw [List.take_of_length_le (by rw [Array.length_toList];omega)]
 exact j
theorem L3 (G:Option IntKind) (l:List AV):(yk G l).a9=l:=by
 unfold yk
 split
 ·split
  ·rename_i zs j;exact (qk j).symm
  ·rfl
 ·rfl
theorem ab2 {j:TypeId} (G:o.op= .alloc j) (h:EI P j H k=some r):bf P ro T o H (.some false []) lo k r:=by
 unfold EI at h
 split at h
 ·rename_i l M
  obtain ⟨i,z,J,O,rfl,a1,_⟩:=rT M
  refine vv h (fun m h=>by simp at h) (fun c h=>by rw [G] at h;cases h) rfl (fun B0 w0 ab D α a w a0 U Z=> ?_)
  refine ⟨w, .cells z.cells j,z.cells.size, .pointer (some ⟨w.heap.size,0,none⟩),Below.refl _ _,fun ds=>by simp, ?_,fun D' α' B' w' _ N=>Er N rfl ?_,fun D' α' B' w' I S=> ⟨I,by rw [S]⟩⟩
  ·unfold execOp
   rw [G]
   simp [Instr.alloc,zeroValue,typeInfo,J,O,newVar,newRow,Sem.run_bind,Result.andThen]
  ·have:(GV P j (z.cells.toList.map .val)).a9=z.cells.toList.map .val:=by
    unfold GV
    split
    ·exact L3 _ _
    ·rfl
   rw [this]
   exact ao.vals _
 ·cases h
theorem ab6 {j:TypeId} {x:Operand} (G:o.op= .box j x) (h:EM j (aA T x) H k=some r):bf P ro T o H (.some false []) lo k r:=by
 unfold EM at h
 split at h
 ·rename_i l N
  simp only [Bool.cond_eq_ite] at h
  split at h
  ·refine vv h (fun m h=>by simp at h) (fun c h=>by rw [G] at h;cases h) rfl (fun B0 w0 ab D α a w a0 Z J=> ?_)
   have S:=J x (by rw [G];simp [Op.operands])
   refine ⟨w, .cells (a.eval x).cells j,(a.eval x).cells.size, .pointer (some ⟨w.heap.size,0,none⟩),Below.refl _ _,fun ds=>by simp, ?_,fun D' α' B' w' M O=>Er O rfl (By N (AV.Rel.mono _ _ M S)),fun D' α' B' w' I U=> ⟨I,by rw [U]⟩⟩
   unfold execOp;rw [G];rfl
  ·cases h
 ·cases h
end
end Go.V
namespace Go.V
open Go Go.RowKit
theorem KB (off:Nat):∀ (l:List Value) (i:Nat) (cs:Array Value),off+i+l.length≤cs.size→((l.zipIdx i).foldl (fun cs (p:Value×Nat)=>cs.setIfInBounds (off+p.2) p.1) cs).toList=cs.toList.take (off+i) ++ l ++ cs.toList.drop (off+i+l.length)
 | [],i,cs,h=>by simp
 | v :: l,i,cs,h=>by
  rw [List.length_cons] at h
  rw [List.zipIdx_cons,List.foldl_cons,KB off l (i+1) _ (by rw [Array.size_setIfInBounds];omega),Array.toList_setIfInBounds]
  have I:off+i < cs.toList.length:=by rw [Array.length_toList];omega
  have j:(cs.toList.set (off+i) v).take (off+(i+1))=cs.toList.take (off+i) ++ [v]:=by
   rw [← Nat.add_assoc,List.take_add_one,List.take_set_of_le (Nat.le_refl _),List.getElem?_set_self I]
   rfl
  have G:(cs.toList.set (off+i) v).drop (off+(i+1)+l.length)=cs.toList.drop (off+i+(v :: l).length):=by
   rw [List.drop_set_of_lt (by omega),List.length_cons]
   congr 1
   omega
  rw [j,G,List.append_assoc (cs.toList.take (off+i)) [v] l]
  rfl
section
variable {P : Program} {D : Nat → Prop} {α : Nat → Nat × Nat} {B : Nat → Prop} {w : World}
def sa (P:Program) (α:Nat→Nat×Nat) (B:Nat→Prop) (w:World) (D:Nat→Prop):List (Nat×AV)→List (Nat×Value)→Prop
 | [],j=>j= []
 | p :: ps,j=>∃ y zs,j=(p.1,y) :: zs∧p.2.Rel P α B w D y∧sa P α B w D ps zs
theorem C9 {T:List AV} {a:Act} :∀ (l:List (Nat×Operand)),(∀ p ∈ l,(aA T p.2).Rel P α B w D (a.eval p.2))→sa P α B w D (l.map fun p=>(p.1,aA T p.2)) (l.map fun p=>(p.1,a.eval p.2))
 | [],_=>rfl
 | p :: l,h=> ⟨_,_,rfl,h p List.mem_cons_self,C9 l (fun q j=>h q (List.mem_cons_of_mem _ j))⟩
theorem xF {ab place':Nat→Option (Nat×Nat)} (U:∀ i x,ab i=some x→place' i=some x):∀ (ps:List (Nat×AV)) (cells:List AV) {l:List AV},qx ab cells ps=some l→∀ (I:List (Nat×Value)) (cs:Array Value),sa P α B w D ps I→ao P α B w cells D cs.toList→∃ j,Instr.fill place' cs I=some j∧ao P α B w l D j.toList∧j.size=cs.size
 | [],cells,l,h,I,cs,J,G=>by cases h;rw [show I= [] from J];exact ⟨cs,rfl,G,rfl⟩
 | (i,v) :: ps,cells,l,h,I,cs,J,G=>by
  obtain ⟨y,zs,rfl,a3,a4⟩:=J
  unfold qx at h
  split at h
  ·rename_i off sz b3 a7 bD
   simp only [Bool.cond_eq_ite] at h
   split at h
   ·rename_i M
    rw [Bool.and_eq_true,Bool.and_eq_true,beq_iff_eq,decide_eq_true_eq] at M
    obtain ⟨⟨b2,b0⟩,b1⟩:=M
    have Z:=By bD a3
    have S:=ao.len Z
    rw [Array.length_toList] at S
    have a5:=ao.len G
    rw [Array.length_toList] at a5
    have O:=KB off y.cells.toList 0 cs (by rw [Array.length_toList,Nat.add_zero];omega)
    have N:(y.cells.zipIdx.foldl (fun cs (p:Value×Nat)=>cs.setIfInBounds (off+p.2) p.1) cs).toList=cs.toList.take off ++ y.cells.toList ++ cs.toList.drop (off+y.cells.size):=by
     rw [← Array.foldl_toList,Array.toList_zipIdx]
     rw [Nat.add_zero,Array.length_toList] at O
     exact O
    obtain ⟨j,a0,a1,a2⟩:=xF U ps _ h zs (y.cells.zipIdx.foldl (fun cs (p:Value×Nat)=>cs.setIfInBounds (off+p.2) p.1) cs) a4 (by
     rw [N,S]
     exact ao.append (ao.append (ao.take G _) Z) (ao.drop G _))
    have bx:(y.cells.zipIdx.foldl (fun cs (p:Value×Nat)=>cs.setIfInBounds (off+p.2) p.1) cs).size=cs.size:=by
     have:=congrArg List.length N
     simp only [Array.length_toList,List.length_append,List.length_take,List.length_drop] at this
     omega
    refine ⟨j, ?_,a1,by rw [a2,bx]⟩
    unfold Instr.fill
    rw [U i _ a7]
    have a6:¬ (y.cells.size≠sz ||decide (off+y.cells.size > cs.size))=true:=by
     simp;omega
    simp only [a6]
    exact a0
   ·cases h
  ·cases h
end
section
variable {R : Type} {P : Program} {ro : Option Nat} {T : List AV} {o : Oper} {H : Hp} {lo : Nat} {k : Kn R} {r : R}
theorem run_places {w:World} :∀ (j:List Field),j.all (fun f=>(P.info? f.type).isSome)=true→(j.mapM fun f=>do pure (f.offset,← sizeOf f.type):Sem (List (Nat×Nat))).run P w= .ok (j.map fun f=>(f.offset,P.cellsOf f.type)) w
 | [],_=>rfl
 | f :: j,h=>by
  rw [List.all_cons,Bool.and_eq_true] at h
  obtain ⟨i,G⟩:=Option.isSome_iff_exists.1 h.1
  rw [List.mapM_cons]
  simp only [Sem.run_bind,run_sizeOf w G,Result.andThen,Sem.run_pure,run_places j h.2,List.map_cons]
theorem ab7 {t:TypeId} {G:Array (Nat×Operand)} (J:o.op= .build t G) (h:EN P t (qu T G) H k=some r):bf P ro T o H (.some false []) lo k r:=by
 unfold EN at h
 split at h
 ·rename_i l j
  refine eR h (fun c h=>by rw [J] at h;cases h) (fun D α B a w a4=> ?_)
  have a2:sa P α B w D (qu T G) (G.toList.map fun p=>(p.1,a.eval p.2)):=C9 _ (fun p bx=>a4 p.2 (by
   rw [J]
   simp only [Op.operands,List.mem_toArray]
   exact List.mem_map.2 ⟨p,bx,rfl⟩))
  have a3:(G.map fun (x:Nat×Operand)=>(x.1,a.eval x.2)).toList=G.toList.map fun p=>(p.1,a.eval p.2):=Array.toList_map
  unfold Jz at j
  simp only [Bool.cond_eq_ite] at j
  split at j
  ·rename_i z a1 Z U
   obtain ⟨i,a0,S,ab,rfl,bD,_⟩:=rT Z
   split at j
   ·rename_i a5
    obtain ⟨I,N,O,_⟩:=xF (P:=P) (place':=fun i=>((a1.toList.map fun f=>(f.offset,P.cellsOf f.type)).toArray)[i]?) (fun i x M=>by
     unfold fieldPlace at M
     simpa using M) _ _ j _ a0.cells a2 (ao.vals _)
    refine ⟨.agg I, ?_,I,rfl,O⟩
    unfold execOp
    rw [J]
    simp only [Instr.build,Sem.run_bind,zeroValue,typeInfo,run_program,S,Result.andThen,Sem.run_pure,ab,run_underlying U,Array.mapM_eq_mapM_toList,Sem.run_map]
    erw [run_places a1.toList a5]
    simp only [Result.andThen]
    erw [a3,N]
    rfl
   ·cases j
  ·rename_i z n e Z U
   obtain ⟨i,a0,S,ab,rfl,bD,_⟩:=rT Z
   split at j
   ·rename_i a7
    obtain ⟨b0,a6⟩:=Option.isSome_iff_exists.1 a7
    obtain ⟨I,N,O,_⟩:=xF (P:=P) (place':=fun i=>some (i*P.cellsOf e,P.cellsOf e)) (fun i x M=>M) _ _ j _ a0.cells a2 (ao.vals _)
    refine ⟨.agg I, ?_,I,rfl,O⟩
    unfold execOp
    rw [J]
    simp only [Instr.build,Sem.run_bind,zeroValue,typeInfo,run_program,S,Result.andThen,Sem.run_pure,ab,run_underlying U,run_sizeOf w a6]
    erw [a3,N]
    rfl
   ·cases j
  ·cases j
 ·cases h
end
end Go.V
namespace Go.V
open Go Go.RowKit
theorem CW (z:Array Value):∀ n,(madeCells z (n*z.size)).toList=(List.replicate n z.toList).flatten
 | 0=>by simp [madeCells]
 | n+1=>by
  have G:=CW z n
  unfold madeCells at G ⊢
  rw [Array.toList_map,Array.toList_range] at G ⊢
  rw [Nat.succ_mul,List.range_add,List.map_append,G,List.replicate_succ',List.flatten_append,List.flatten_singleton]
  congr 1
  rw [List.map_map]
  apply List.ext_getElem?
  intro i
  rw [List.getElem?_map]
  by_cases j:i < z.size
  ·rw [List.getElem?_range j,Array.getElem?_toList]
   simp only [Option.map_some,Function.comp]
   rw [Nat.add_comm,Nat.add_mul_mod_self_right,Nat.mod_eq_of_lt j,Array.getElem?_eq_getElem j,getElem!_pos z i j]
  ·rw [List.getElem?_eq_none (by simp;omega),List.getElem?_eq_none (by simp;omega)]
   rfl
section
variable {R : Type} {P : Program} {ro : Option Nat} {T : List AV} {o : Oper} {H : Hp} {lo : Nat} {k : Kn R} {r : R}
theorem Pp {D:Nat→Prop} {α:Nat→Nat×Nat} {B:Nat→Prop} {w:World} (n:Nat) (z:List Value):ao P α B w (List.replicate n (z.map AV.val)).flatten D (List.replicate n z).flatten:=by
 have:(List.replicate n (z.map AV.val)).flatten=((List.replicate n z).flatten).map AV.val:=by rw [List.map_flatten,List.map_replicate]
 rw [this]
 exact ao.vals _
theorem ab8 {t : TypeId} {n : Nat} {I : Array (Nat × Operand)} (O : o.op = .buildSlice t n I) (h : EO P t n (qu T I) H k = some r) : bf P ro T o H (.some false []) lo k r := by
  unfold EO at h
  split at h
  · rename_i e b2
    have b1 := vo b2
    split at h
    · rename_i l G
      refine vv h (fun m h => by simp at h) (fun c h => by rw [O] at h; cases h) rfl (fun B0 w0 a6 D α a w b8 b7 a5 => ?_)
      have b0 : sa P α (Own B0 D α a6) w D (qu T I) (I.toList.map fun p => (p.1, a.eval p.2)) := C9 _ (fun p bD => a5 p.2 (by
        rw [O]
        simp only [Op.operands, List.mem_toArray]
        exact List.mem_map.2 ⟨p, bD, rfl⟩))
      have a0 : (I.map fun (x : Nat × Operand) => (x.1, a.eval x.2)).toList = I.toList.map fun p => (p.1, a.eval p.2) := Array.toList_map
      unfold JA at G
      simp only [Bool.cond_eq_ite] at G
      split at G
      · rename_i z b5
        obtain ⟨i, j, ab, b6, rfl, ct, _⟩ := rT b5
        split at G
        · rename_i Z
          rw [Bool.and_eq_true, Bool.and_eq_true, decide_eq_true_eq, beq_iff_eq, List.length_map, Array.length_toList] at Z
          obtain ⟨⟨_, ch⟩, S⟩ := Z
          obtain ⟨U, J, a2, a3⟩ := xF (P := P) (place' := fun i => some (i * P.cellsOf e, P.cellsOf e)) (fun i x b4 => b4) _ _ G _ (madeCells j.cells (n * j.cells.size)) b0 (by rw [CW]; exact Pp n _)
          refine ⟨w, .cells U e, U.size, .slice (some ⟨w.heap.size, 0, none⟩) n n, Below.refl _ _, fun ds => by simp, ?_, fun D' α' B' w' a7 b3 => Er b3 rfl (by rw [L3]; exact ao.mono _ _ a7 a2), fun D' α' B' w' a4 a1 => ⟨a4, n, 0, by rw [a1], Nat.le_refl _, fun _ => rfl, .inr ⟨rfl, ?_⟩⟩⟩
          · unfold execOp
            rw [O]
            have bx : ¬ (n * P.cellsOf e > 2 ^ 24) := by have : (2:Nat) ^ 24 = 16777216 := by decide
                                                         omega
            simp only [Instr.buildSlice, Sem.run_bind, run_underlying b1, Result.andThen, run_sizeOf w ab, bx, if_false, Sem.run_pure]
            by_cases M : n * P.cellsOf e = 0
            · have N : madeCells j.cells (n * j.cells.size) = (Array.range (n * P.cellsOf e)).map ((#[] : Array Value)[· % (#[] : Array Value).size]!) := by
                rw [S, M]; simp [madeCells, Array.range_zero']
              rw [N] at J
              simp only [M, if_true, Sem.run_bind, Sem.run_pure, Result.andThen]
              rw [M] at J
              erw [a0, J]
              rfl
            · have N : madeCells j.cells (n * j.cells.size) = (Array.range (n * P.cellsOf e)).map (fun x => j.cells[x % j.cells.size]!) := by
                rw [← S]; rfl
              rw [N] at J
              simp only [M, if_false, Sem.run_bind, zeroValue, typeInfo, run_program, ab, Result.andThen, Sem.run_pure, b6]
              erw [a0, J]
              rfl
          · rw [a1, Nat.zero_add, a3, ← S, size_madeCells]; exact Nat.le_refl _
        · cases G
      · cases G
    · cases h
  · cases h
theorem ac2 {G:Type} (z:List G) (l c sz:Nat) (j:z.length=sz) (h:l≤c):(List.replicate c z).flatten.take (l*sz)=(List.replicate l z).flatten:=by
 obtain ⟨d,rfl⟩:∃ d,c=l+d:= ⟨c - l,by omega⟩
 rw [← List.replicate_append_replicate,List.flatten_append]
 have:(List.replicate l z).flatten.length=l*sz:=by simp [j]
 rw [← this]
 exact List.take_left
theorem acq {t:TypeId} {l c:Operand} (M:o.op= .makeSlice t l c) (h:CX P H t (aA T l) (aA T c) k=some r):bf P ro T o H (.some false []) lo k r:=by
 unfold CX at h
 split at h
 ·rename_i e bD I bx j c4 ct ch
  have c3:=vo c4
  simp only [Bool.cond_eq_ite] at h
  split at h
  ·rename_i a1
   simp only [Bool.and_eq_true,decide_eq_true_eq] at a1
   obtain ⟨⟨⟨b2,b3⟩,b4⟩,b5⟩:=a1
   split at h
   ·rename_i z _ c6
    obtain ⟨i,J,c0,c7,rfl,a4,b7⟩:=rT c6
    split at h
    ·rename_i S G
     have c8:J.cells.size=P.cellsOf e∧S.a9=(List.replicate I.toNat (J.cells.toList.map AV.val)).flatten:=by
      split at G
      ·rename_i eh en ec a5
       split at G
       ·rename_i N
        rw [Bool.and_eq_true,decide_eq_true_eq,beq_iff_eq] at N
        obtain ⟨rfl,b8⟩:=N
        cases G
        rw [a5]
        have c2:J.cells.size=1:=by
         have:=congrArg List.length a5
         rwa [List.length_map,Array.length_toList] at this
        refine ⟨?_, ?_⟩
        ·rw [c2,b8]
        ·simp [aC.a9,List.map_replicate]
       ·cases G
      ·split at G
       ·rename_i a3
        cases G
        rw [beq_iff_eq,List.length_map,Array.length_toList] at a3
        exact ⟨a3,rfl⟩
       ·cases G
     obtain ⟨a6,a0⟩:=c8
     refine vv h (fun m h=>by simp at h) (fun c h=>by rw [M] at h;cases h) rfl (fun B0 w0 dy D α a w eb dx ab=> ?_)
     have U:=ab l (by rw [M];simp [Op.operands])
     have Z:=ab c (by rw [M];simp [Op.operands])
     rw [ct] at U
     rw [ch] at Z
     have b0:a.eval l= .int bD I:=U
     have b1:a.eval c= .int bx j:=Z
     have O:I.toNat≤j.toNat:=by omega
     refine ⟨w, .cells (madeCells J.cells (j.toNat*i.size)) e,j.toNat*P.cellsOf e, .slice (some ⟨w.heap.size,0,none⟩) I.toNat j.toNat,Below.refl _ _,fun ds=>by simp, ?_,fun D' α' B' w' N c5=> ?_,fun D' α' B' w' b6 a7=> ⟨b6,j.toNat,0,by rw [a7],O,(fun h=>by cases h), .inr ⟨rfl,by rw [a7,Nat.zero_add];exact Nat.le_refl _⟩⟩⟩
     ·unfold execOp
      rw [M]
      simp only [b0,b1,Sem.run_bind,run_make w t e i J c3 c0 c7 bD bx I j b2 b3 (by rw [← b7];exact b4) b5,Result.andThen,Sem.run_pure]
     ·have c1:(madeCells J.cells (j.toNat*i.size)).size=j.toNat*P.cellsOf e:=by rw [size_madeCells,a4]
      have a2:S.len=I.toNat*P.cellsOf e:=by
       rw [← aC.eK,a0];simp [a6]
      refine .inr ⟨_,_,c5,c1,fun _ ed _=>by simp,by rw [a2];exact Nat.mul_le_mul_right _ O, ?_⟩
      rw [a2,← a4,← a6,CW,ac2 _ _ _ _ (by rw [Array.length_toList]) O,a0]
      exact Pp _ _
    ·cases h
   ·cases h
  ·cases h
 ·cases h
theorem WA (w:World) (cs:Array Value) (e:TypeId) (n:Nat):(w.alloc (.cells cs e)).freeze ⟨w.heap.size,n,none⟩ 1=w.alloc (.cells cs e (n,n+1)):=by
 unfold World.freeze World.alloc
 simp only [Nat.one_ne_zero,if_false]
 congr 1
 apply Array.ext
 ·simp
 ·intro i G I
  simp only [Array.size_modify,Array.size_push] at G
  rw [Array.getElem_modify]
  by_cases j:i=w.heap.size
  ·subst j;simp
  ·rw [if_neg (Ne.symm j),Array.getElem_push_lt (by omega),Array.getElem_push_lt (by omega)]
theorem run_mark {b:Nat} {w:World} {c:Array Value} {e:TypeId} {fr:Nat×Nat} (h:w.heap[b]? =some (.cells c e fr)):(markStringish ⟨b,0,none⟩).run P w= .ok () (w.freeze ⟨b,c.size,none⟩ 1):=by
 simp [markStringish,World.shape?,h,Sem.run_bind,Result.andThen]
theorem KC:∀ (j:List Int) (s:List UInt8),(j.foldl (fun r n=>r.push (UInt8.ofNat n.toNat)) (⟨s.toArray⟩:ByteArray))= ⟨(s ++ j.map fun z=>UInt8.ofNat z.toNat).toArray⟩
 | [],s=>by simp
 | n :: j,s=>by
  rw [List.foldl_cons]
  have:(⟨s.toArray⟩:ByteArray).push (UInt8.ofNat n.toNat)= ⟨(s ++ [UInt8.ofNat n.toNat]).toArray⟩:=by
   unfold ByteArray.push;simp
  rw [this,KC j]
  simp
theorem YR {K:aC→Nat→Option R} {t:TypeId} {v:AV} (h:rm P H t v K=some r) (G:LF v=true) {D:Nat→Prop} {α:Nat→Nat×Nat} {B:Nat→Prop} {w:World} {u:Value} (j:v.Rel P α B w D u):∃ A m cap,u= .slice A m cap:=by
 unfold rm at h
 split at h
 ·exact ⟨_,_,_,j⟩
 ·cases G
 ·obtain ⟨_,cap,I,rfl,_⟩:=j;exact ⟨_,_,_,rfl⟩
 ·obtain ⟨A,cap,rfl,_⟩:=j;exact ⟨_,_,_,rfl⟩
 ·cases h
theorem aca {s d:TypeId} {x:Operand} (a5:o.op= .convert s d x) (h:BH P H s d (aA T x) k=some r):bf P ro T o H (.some false (tid false (aA T x))) lo k r:=by
 have a0:∀ c,o.op≠ .defer c:=fun c h=>by rw [a5] at h;cases h
 have a3:∀ {a:Act} {w w':World} {y:Value},(convert s d (a.eval x)).run P w= .ok y w'→(execOp a.eval o).run P w= .ok (.value y) w':=by
  intro a w w' y eb
  unfold execOp
  rw [a5]
  simp only [Sem.run_bind,eb,Result.andThen,Sem.run_pure]
 have a2:x ∈ o.op.operands:=by rw [a5];simp [Op.operands]
 unfold BH at h
 simp only [Bool.cond_eq_ite] at h
 split at h
 ·rename_i et b6 N M
  split at h
  ·rename_i ed n O
   have go:k (.val (.int b6 (b6.wrap n))) H=some r→bf P ro T o H (.some false (tid false (aA T x))) lo k r:=by
    intro b1
    refine dB b1 (fy _) a0 (fun B0 w0 a4 D α a w Z U I=> ?_)
    have j:=I x a2
    rw [O] at j
    have S:a.eval x= .int ed n:=j
    refine ⟨_,a3 ?_,rfl⟩
    rw [S]
    unfold convert
    simp only [Sem.run_bind,run_underlying N,run_underlying M,Result.andThen,Conv.intToInt,Sem.run_pure]
   split at h
   ·split at h
    ·rename_i c0;exact go (by rw [Pr c0];exact h)
    ·cases h
   ·exact go h
  ·cases h
 ·rename_i N M
  split at h
  ·rename_i st O
   refine dB h (fy _) a0 (fun B0 w0 a4 D α a w Z U I=> ?_)
   have j:=I x a2
   rw [O] at j ⊢
   have S:a.eval x= .string st:=j
   refine ⟨_,a3 ?_,rfl⟩
   rw [S]
   unfold convert
   simp only [Sem.run_bind,run_underlying N,run_underlying M,Result.andThen,Sem.run_pure]
  ·cases h
 ·rename_i e N M
  split at h
  ·rename_i G
   rw [Bool.and_eq_true,Bool.and_eq_true,beq_iff_eq,beq_iff_eq] at G
   obtain ⟨G,c5⟩:=G
   have a7:=CJ G.1
   have c8:=fun {D α B w u} c7=>YR h c5 (D:=D) (α:=α) (B:=B) (w:=w) (u:=u) c7
   obtain ⟨c,n,h,en,dy⟩:=NY h
   split at h
   ·rename_i zs ec
    refine dB h (fy _) a0 (fun B0 w0 a4 D α a w Z U I=> ?_)
    have j:=I x a2
    obtain ⟨eh,a6⟩:=dy Z U j
    refine ⟨.string (ofBytes zs),a3 ?_,rfl⟩
    obtain ⟨ch,ep⟩:=CG ec
    have b3:eh=zs.map (.int .u8):=by
     have:=a6.rel
     rw [ch,show zs.map (fun z=>AV.val (.int .u8 z))=(zs.map (Value.int .u8)).map AV.val by rw [List.map_map];rfl] at this
     exact ao.yb this
    have J:=a6.cells w rfl
    have ab:=a6.lenOf w
    have c6:∀ a1:List Int,a1.foldl (fun r n=>r.push (UInt8.ofNat n.toNat)) ByteArray.empty=ofBytes a1:=fun a1=>by
     have:=KC a1 []
     rw [List.nil_append] at this
     exact this
    cases bx:a.eval x with
    | slice A m cap=>
     rw [bx] at ab J
     have c2:m=n:=by simpa [Builtin.lenOf,Sem.run_pure] using ab
     subst c2
     unfold convert
     simp only [Sem.run_bind,run_underlying N,run_underlying M,Result.andThen,run_underlying a7]
     cases A with
     | none=>
      have c3:zs= []:=by
       rw [G.2] at J
       simp only [Builtin.firstCells,Sem.run_pure,Result.ok.injEq,and_true] at J
       have:=congrArg Array.toList J
       rw [b3] at this
       simpa using this.symm
      rw [c3]
      rfl
     | some b=>
      have c1:(loadCells b m).run P w= .ok (zs.map (Value.int .u8)).toArray w:=by
       rw [G.2] at J
       simp only [Builtin.firstCells,Nat.mul_one] at J
       rw [J,b3]
      rw [run_bytesToString w b m cap zs c1,c6]
    | string st=>obtain ⟨A,m,cap,bD⟩:=c8 j;rw [bx] at bD;cases bD
    | _=>rw [bx] at ab;simp [Builtin.lenOf,stuck] at ab
   ·cases h
  ·cases h
 ·rename_i e N M
  split at h
  ·rename_i st O
   split at h
   ·rename_i G
    rw [Bool.and_eq_true,beq_iff_eq,beq_iff_eq] at G
    have a7:=CJ G.1
    rw [O]
    refine vv h (fun m h=>by simp [tid] at h) a0 rfl (fun B0 w0 a4 D α a w Z U I=> ?_)
    have j:=I x a2
    rw [O] at j
    have S:a.eval x= .string st:=j
    have b0:=grownCap_ge w st.size 0 e
    have b4:((st.data.map fun b=>Value.int .u8 b.toNat) ++ Array.replicate (grownCap w st.size 0 e - st.size) (Value.int .u8 0)).size=grownCap w st.size 0 e:=by
     rw [Array.size_append,Array.size_map,Array.size_replicate]
     have:st.data.size=st.size:=rfl
     omega
    refine ⟨w.drew, .cells ((st.data.map fun b=>Value.int .u8 b.toNat) ++ Array.replicate (grownCap w st.size 0 e - st.size) (Value.int .u8 0)) e (grownCap w st.size 0 e,grownCap w st.size 0 e+1),grownCap w st.size 0 e, .slice (some ⟨w.heap.size,0,none⟩) st.size (grownCap w st.size 0 e),wD w,fun ds=>by simp,a3 ?_,fun D' α' B' w' b1 dx=> ?_,fun D' α' B' w' b8 b5=> ⟨b8,_,0,by rw [b5];rfl,b0,(fun h=>by cases h), .inr ⟨rfl,by rw [b5,G.2,Nat.zero_add,Nat.mul_one];exact Nat.le_refl _⟩⟩⟩
    ·rw [S]
     unfold convert
     simp only [Sem.run_bind,run_underlying N,run_underlying M,Result.andThen,run_underlying a7]
     have b2:=run_mark (P:=P) (w:=w.drew.alloc (.cells ((st.data.map fun b=>Value.int .u8 b.toNat) ++ Array.replicate (grownCap w st.size 0 e - st.size) (Value.int .u8 0)) e)) (b:=w.heap.size) (World.alloc_heap_new w.drew _)
     rw [b4] at b2
     have ct:=WA w.drew ((st.data.map fun b=>Value.int .u8 b.toNat) ++ Array.replicate (grownCap w st.size 0 e - st.size) (Value.int .u8 0)) e (grownCap w st.size 0 e)
     rw [← ct]
     have b7:(Conv.stringToBytes e st).run P w=((markStringish ⟨w.heap.size,0,none⟩).run P (w.drew.alloc (.cells ((st.data.map fun b=>Value.int .u8 b.toNat) ++ Array.replicate (grownCap w st.size 0 e - st.size) (Value.int .u8 0)) e))).andThen fun _ w'=> .ok (.slice (some ⟨w.heap.size,0,none⟩) st.size (grownCap w st.size 0 e)) w':=by
      simp [Conv.stringToBytes,newRow,Question.forced,grownCap,Sem.run_bind,Result.andThen]
     rw [b7,b2]
     rfl
    ·refine .inr ⟨_,_,dx,b4,fun _ i eo=>by simp;omega,by show (db st).length≤_;rw [wL];exact b0, ?_⟩
     have c4:(st.data.map fun b=>Value.int .u8 (b.toNat:Int)).toList=(db st).map (Value.int .u8):=by simp [db]
     have:(((st.data.map fun b=>Value.int .u8 b.toNat) ++ Array.replicate (grownCap w st.size 0 e - st.size) (Value.int .u8 0)).toList.take (aC.ints .u8 (db st)).len)=(db st).map (Value.int .u8):=by
      show List.take (db st).length _=_
      rw [Array.toList_append,c4,List.take_append_of_le_length (by rw [List.length_map];exact Nat.le_refl _),List.take_of_length_le (by rw [List.length_map];exact Nat.le_refl _)]
     rw [this]
     show ao P α' B' w' ((db st).map fun z=>AV.val (.int .u8 z)) D' _
     rw [show (db st).map (fun z=>AV.val (.int .u8 z))=((db st).map (Value.int .u8)).map AV.val by rw [List.map_map];rfl]
     exact ao.vals _
   ·cases h
  ·cases h
 ·cases h
end
end Go.V
namespace Go.V
open Go Go.RowKit
section
variable {R : Type} {P : Program} {ro : Option Nat} {T : List AV} {o : Oper} {H : Hp} {lo : Nat} {k : Kn R} {r : R}
theorem Xt {u:TypeId} {j:Nat} (I:P.cellsOf u≠0) (J:1≤j):liesAt P P.depth u j 0 u 1=true:=by
 have G:P.depth=(2*(P.types.size+Made.depth)+1)+1:=rfl
 rw [G]
 simp only [liesAt,Bool.or_eq_true]
 left
 rw [G]
 simp [rowAt,I,J,sameLayout]
theorem acb {s d:TypeId} {x:Operand} (N:o.op= .convert s d x) (h:ER P H s d (aA T x) k=some r):bf P ro T o H (.some false (tid false (aA T x))) lo k r:=by
 have a6:∀ c,o.op≠ .defer c:=fun c h=>by rw [N] at h;cases h
 have bx:∀ {a:Act} {w w':World} {y:Value},(convert s d (a.eval x)).run P w= .ok y w'→(execOp a.eval o).run P w= .ok (.value y) w':=by
  intro a w w' y b5
  unfold execOp
  rw [N]
  simp only [Sem.run_bind,b5,Result.andThen,Sem.run_pure]
 have a7:x ∈ o.op.operands:=by rw [N];simp [Op.operands]
 unfold ER at h
 split at h
 ·rename_i i off a5
  unfold JZ at h
  simp only [Bool.cond_eq_ite] at h
  split at h
  ·rename_i t a4 a0
   split at h
   ·rename_i b6 c ty st a2 G
    split at h
    ·rename_i I
     simp only [Bool.and_eq_true,Bool.not_eq_true',decide_eq_true_eq,beq_eq_false_iff_ne] at I
     obtain ⟨⟨U,b3⟩,b7⟩:=I
     have a3:=(List.getElem?_eq_some_iff.1 G).1
     refine dB h (fy _) a6 (fun B0 w0 a1 D α a w J Z ab=> ?_)
     have j:=ab x a7
     rw [a5] at j J
     obtain ⟨M,j⟩:=j
     have S:a1 i=some (.row c ty st):=(J i false (by simp [tid]) a3).trans G
     obtain ⟨cs,fr,O,bD,b0,b1,b2⟩:=kG Z M S (by cases st <;> first | rfl | exact absurd rfl U)
     refine ⟨_,bx ?_,M,rfl⟩
     rw [j]
     exact Lib.run_to_unsafe w ⟨(α i).1,off,none⟩ a4 a0 a2 b3 (e:=ty) (cells:=cs.size) (by simp [World.shape?,O]) (by show off < cs.size;omega)
    ·cases h
   ·cases h
  ·rename_i u a4 a0
   split at h
   ·rename_i b6 c ty st a2 G
    split at h
    ·rename_i I
     simp only [Bool.and_eq_true,Bool.not_eq_true',decide_eq_true_eq,beq_iff_eq,beq_eq_false_iff_ne] at I
     obtain ⟨⟨⟨⟨U,rfl⟩,rfl⟩,b4⟩,b8⟩:=I
     have a3:=(List.getElem?_eq_some_iff.1 G).1
     refine dB h (fy _) a6 (fun B0 w0 a1 D α a w J Z ab=> ?_)
     have j:=ab x a7
     rw [a5] at j J
     obtain ⟨M,j⟩:=j
     have S:a1 i=some (.row c ty st):=(J i false (by simp [tid]) a3).trans G
     obtain ⟨cs,fr,O,bD,b0,b1,b2⟩:=kG Z M S (by cases st <;> first | rfl | exact absurd rfl U)
     refine ⟨_,bx ?_,M,rfl⟩
     rw [j]
     refine Lib.run_from_unsafe w ⟨(α i).1,0,none⟩ a4 a0 a2 (e:=ty) (cells:=cs.size) (by simp [World.shape?,O]) (Xt (by omega) ?_)
     exact (Nat.one_le_div_iff b4).2 (by omega)
    ·cases h
   ·cases h
  ·cases h
 ·exact aca N h
theorem abl {tp j:TypeId} {J:TypeInfo} {w:World} (a:Addr) (G:P.underlying tp=some (.pointer j)) (I:P.info? j=some J):(binOp .eql tp (.pointer (some a)) (.pointer (some a))).run P w= .ok (.bool true) w:=by
 have h:∀ d:Nat,(Op.equalIn (d+1) tp (.pointer (some a)) (.pointer (some a))).run P w= .ok true w:=fun d=>by
  simp [Op.equalIn,run_underlying G,sizeOf,typeInfo,I,run_sameAddr_same]
 simp only [binOp]
 simp [Op.equal,Op.maxDepth,h 9999]
theorem ab5 {N:BinOp} {t ty:TypeId} {x y:Operand} (G:o.op= .binOp N t x y ty) (h:EL P N t (aA T x) (aA T y) H k=some r):bf P ro T o H (.some false []) lo k r:=by
 have a4:∀ c,o.op≠ .defer c:=fun c h=>by rw [G] at h;cases h
 unfold EL at h
 split at h
 ·rename_i i off M a5 Z ab
  have go:∀ {b:Bool},i=M→off=a5→k (.val (.bool b)) H=some r→(∀ (a:Addr) (w:World),(binOp N t (.pointer (some a)) (.pointer (some a))).run P w= .ok (.bool b) w)→bf P ro T o H (.some false []) lo k r:=by
   intro b a0 a2 a1 a3
   subst a0 a2
   refine dB a1 (fun m h=>by simp at h) a4 (fun B0 w0 bx D α a w bD a7 U=> ?_)
   have O:=U x (by rw [G];simp [Op.operands])
   have S:=U y (by rw [G];simp [Op.operands])
   rw [Z] at O
   rw [ab] at S
   exact ⟨.bool b,yL G O.2 S.2 (KQ (fun b0 h=>by cases h) (fun h=>by cases h)) (a3 _ _),rfl⟩
  unfold MU at h
  simp only [Bool.cond_eq_ite] at h
  split at h
  ·rename_i a6 J
   split at h
   ·rename_i j
    simp only [Bool.and_eq_true,beq_iff_eq] at j
    obtain ⟨M,I⟩:=Option.isSome_iff_exists.1 j.2
    exact go j.1.1 j.1.2 h (fun a w=>abl a J I)
   ·cases h
  ·rename_i a6 J
   split at h
   ·rename_i j
    simp only [Bool.and_eq_true,beq_iff_eq] at j
    obtain ⟨M,I⟩:=Option.isSome_iff_exists.1 j.2
    exact go j.1.1 j.1.2 h (fun a w=>Lib.run_neq_ptr_same w a J I)
   ·cases h
  ·cases h
 ·exact ab4 G h
theorem ace {c:Call} (j:o.op= .call c) (J:c.callee= .builtin .unsafeSliceData) (h:ET P T o c.args.toList H k=some r):bf P ro T o H (.some false []) lo k r:=by
 have N:∀ c,o.op≠ .defer c:=fun c h=>by rw [j] at h;cases h
 unfold ET at h
 simp only [Bool.cond_eq_ite] at h
 split at h
 ·rename_i x G
  split at h
  ·rename_i fl t i off len a0
   split at h
   ·cases h
   ·rename_i a2
    refine dB h (fun m h=>by simp at h) N (fun B0 w0 bx D α a w bD a7 Z=> ?_)
    have a4:x ∈ c.args:=Array.mem_toList_iff.1 (by rw [G];exact List.mem_singleton.2 rfl)
    have I:=Z x (by rw [j];simp only [Op.operands,Call.operands,Array.mem_append];exact .inr a4)
    rw [a0] at I
    obtain ⟨a1,cap,b0,S,a6,_,U⟩:=I
    have M:cap≠0:=by
     have:len≠0:=by simpa using a2
     omega
    obtain ⟨rfl,_⟩:=U.resolve_left M
    refine ⟨_, ?_,a1,rfl⟩
    obtain ⟨a5,O,ts⟩:=c
    simp only at J G
    subst J
    have ab:O= #[x]:=by apply Array.toList_inj.1;rw [G]
    subst ab
    have a3:Array.map a.eval #[x]= #[a.eval x]:=by simp
    unfold execOp
    rw [j]
    simp only [resolve,Sem.run_bind,Sem.run_pure,Result.andThen,invoke,builtin,a3,S,Lib.run_unsafeSliceData_row w ts o.type _ _ _ M]
  ·exact pE N h
  ·cases h
 ·cases h
theorem Y3 {B0:Nat→Prop} {w0:World} {D:Nat→Prop} {α:Nat→Nat×Nat} {h:Hf} {w w':World} (I:Ok P B0 w0 D α h w) {i:Nat} (S:D i) {c:aC} {ty:TypeId} (ab:h i=some (.row c ty .live)) (bD:w'.heap.size=w.heap.size) (a7:∀ b,b≠(α i).1→w'.heap[b]? =w.heap[b]?)
  (ch:∀ B,B≤(α i).1→Below B w w') (b7:∀ cs fr,w.heap[(α i).1]? =some (.cells cs ty fr)→∃ a4,w'.heap[(α i).1]? =some (.cells cs ty a4)):
  Ok P B0 w0 D α (bd h i (some (.row c ty .froz))) w'∧bB D D α α (aQ D α h) (aQ D α (bd h i (some (.row c ty .froz)))) w w':=by
 have a2:aQ D α h (α i).1:= ⟨i,_,S,ab,rfl,rfl⟩
 have a3:∀ b,aQ D α (bd h i (some (.row c ty .froz))) b→aQ D α h b∧b≠(α i).1:=by
  rintro b ⟨G,b0,M,j,J,O⟩
  by_cases e:G=i
  ·subst e;rw [cG] at j;cases j;cases J
  ·rw [bK _ _ e] at j
   exact ⟨⟨G,b0,M,j,J,O⟩,fun Z=>e (I.inj G i b0 _ M S j ab J rfl (O.trans Z))⟩
 have a6:bB D D α α (aQ D α h) (aQ D α (bd h i (some (.row c ty .froz)))) w w':= ⟨fun _ h=>h,fun _ _=>rfl,fun b o j J=> ⟨fun h=>J (a3 b h).1,(a7 b (fun e=>J (e ▸ a2))).trans j⟩⟩
 refine ⟨⟨fun G M=> ?_,I.below.trans (ch _ (I.fresh i S).1),fun b a1=> ?_,fun b a1 N=>I.sep b a1 (a3 b N).1,fun G M=>by rw [bD];exact I.fresh G M, ?_, ?_, ?_⟩,a6⟩
 ·by_cases e:G=i
  ·subst e;exact ⟨_,cG _ _ _⟩
  ·rw [bK _ _ e];exact I.lt G M
 ·have j:=I.cJ b a1
  refine ⟨by rw [bD];exact j.1,fun ds=> ?_⟩
  rw [a7 b (fun e=>I.sep b a1 (e ▸ a2))]
  exact j.2 ds
 ·intro a b b1 b2 b6 b8 j J O a0 a5
  have b3:∀ G k,bd h i (some (.row c ty .froz)) G=some k→k.isLive=true→G≠i:=by
   rintro G k bx c0 rfl
   rw [cG] at bx
   cases bx
   cases c0
  have ea:=b3 a b1 j O
  have b4:=b3 b b2 J a0
  rw [bK _ _ ea] at j
  rw [bK _ _ b4] at J
  exact I.inj a b b1 b2 b6 b8 j J O a0 a5
 ·intro G k M j J N
  by_cases e:G=i
  ·subst e
   rcases N with N | N
   ·exact I.sep _ N a2
   ·exact (a3 _ N).2 rfl
  ·rw [bK _ _ e] at j
   exact I.cV G k M j J (N.elim .inl (fun h=> .inr (a3 _ h).1))
 ·intro G k M j
  by_cases e:G=i
  ·subst e
   rw [cG] at j
   cases j
   rcases I.cN G _ S ab with ct | ⟨cs,fr,j,J,O,a0,a5⟩
   ·cases ct
   ·obtain ⟨a4,b5⟩:=b7 cs fr j
    exact .inr ⟨cs,a4,b5,J,(fun h=>by cases h),a0,ao.mono _ _ (a6.keeps B0) a5⟩
  ·rw [bK _ _ e] at j
   refine cM.mono (a6.keeps B0) (fun o c1 U=>(a7 _ (fun Z=> ?_)).trans c1) (I.cN G k M j)
   rcases U with U | U
   ·exact e (I.inj G i k _ M S j ab U rfl Z)
   ·exact I.cV G k M j U (.inr (Z ▸ a2))
theorem NI {w:World} :∀ (l:List Int) (a:Addr) (G:ByteArray),(∀ z ∈ l,aj .u8 z=true)→(∀ (j:Nat) (z:Int),l[j]? =some z→w.cell? (a.add j)=some (.int .u8 z))→(loadBytes a G l.length).run P w= .ok ⟨G.data ++ (l.map fun z=>UInt8.ofNat z.toNat).toArray⟩ w
 | [],a,G,_,_=>by simp [loadBytes]
 | z :: l,a,G,M,h=>by
  have J:w.cell? a=some (.int .u8 z):=by
   have:=h 0 z rfl
   simpa [Addr.add] using this
  have S:=NI l (a.add 1) (G.push (UInt8.ofNat z.toNat)) (fun z O=>M z (List.mem_cons_of_mem _ O)) (fun j y N=>by
   have:=h (j+1) y (by simpa using N)
   have e:(a.add 1).add j=a.add (j+1):=by
    unfold Addr.add
    by_cases I:j=0
    ·subst I;simp
    ·simp [I];omega
   rw [e];exact this)
  simp only [List.length_cons,loadBytes,Sem.run_bind,run_load,J,Result.andThen]
  show Sem.run P (loadBytes (a.add 1) (G.push (UInt8.ofNat z.toNat)) l.length) w=_
  rw [S]
  congr 1
  apply ByteArray.ext
  simp [ByteArray.push]
theorem Wz {w:World} {b n:Nat} {cs:Array Value} {ty:TypeId} {fr:Nat×Nat} (N:w.heap[b]? =some (.cells cs ty fr)):(w.freeze ⟨b,0,none⟩ n).heap.size=w.heap.size∧(∀ j,j≠b→(w.freeze ⟨b,0,none⟩ n).heap[j]? =w.heap[j]?)∧(∀ B,B≤b→Below B w (w.freeze ⟨b,0,none⟩ n))∧∃ S,(w.freeze ⟨b,0,none⟩ n).heap[b]? =some (.cells cs ty S):=by
 unfold World.freeze
 by_cases J:n=0
 ·rw [if_pos J]
  exact ⟨rfl,fun _ _=>rfl,fun B _=>Below.refl _ _,fr,N⟩
 ·rw [if_neg J]
  have M:∀ j,j≠b→(w.heap.modify b fun
   | .cells c O (lo,I)=> .cells c O (if lo==I then (0,0+n) else (min lo 0,max I (0+n)))
   | o=>o)[j]? =w.heap[j]? :=by
   intro j U
   rw [Array.getElem?_modify,if_neg (fun e=>U e.symm)]
  refine ⟨Array.size_modify,M,fun B Z=> ⟨rfl,rfl,rfl,by show w.heap.size≤(w.heap.modify _ _).size;rw [Array.size_modify];exact Nat.le_refl _,fun k ab=>M k (by omega)⟩, ?_⟩
  obtain ⟨fl,G⟩:=fr
  refine ⟨if fl==G then (0,0+n) else (min fl 0,max G (0+n)), ?_⟩
  show (w.heap.modify b _)[b]? =_
  rw [Array.getElem?_modify,if_pos rfl,N]
  rfl
theorem acA {c:Call} (N:o.op= .call c) (a5:c.callee= .builtin .unsafeString) (h:E0 P lo T o c.args.toList c.argTypes.toList H k=some r):bf P ro T o H (match c.args.toList with | p :: _=> .some false (tid true (aA T p)) | _=> .all) lo k r:=by
 have b3:∀ c,o.op≠ .defer c:=fun c h=>by rw [N] at h;cases h
 unfold E0 at h
 split at h
 ·rename_i p n tp ti J b1
  rw [J]
  simp only
  split at h
  ·rename_i i off O
   split at h
   ·rename_i kn z ed
    unfold OO at h
    simp only [Bool.cond_eq_ite] at h
    split at h
    ·rename_i e zs ty eu a2
     split at h
     ·rename_i b0
      simp only [Bool.and_eq_true,beq_iff_eq,decide_eq_true_eq] at b0
      obtain ⟨⟨⟨⟨⟨⟨⟨rfl,a0⟩,rfl⟩,e6⟩,I⟩,U⟩,c3⟩,e7⟩:=b0
      have bD:=(List.getElem?_eq_some_iff.1 a2).1
      rw [O]
      refine ⟨_,_,h,fun fa m j=>List.getElem?_set_ne (by omega),fun B0 w0=> ⟨by simp,fun m j ec=> ?_,fun h dx ro D α a w K Q a3 fc a4 c4=> ?_⟩⟩
      ·rw [List.getElem?_set_ne]
       rintro rfl
       exact ec (by simp [tid])
      ·have en:p ∈ c.args:=Array.mem_toList_iff.1 (by rw [J];simp)
       have eh:n ∈ c.args:=Array.mem_toList_iff.1 (by rw [J];simp)
       have S:=a4 p (by rw [N];simp only [Op.operands,Call.operands,Array.mem_append];exact .inr en)
       have b4:=a4 n (by rw [N];simp only [Op.operands,Call.operands,Array.mem_append];exact .inr eh)
       rw [O] at S
       rw [ed] at b4
       obtain ⟨a1,S⟩:=S
       have eN:a.eval n= .int kn z:=b4
       have a7:h i=some (.row (.ints .u8 zs) e .live):=(dx i ⟨true,by simp [tid]⟩ bD).trans a2
       obtain ⟨cs,fr,M,e2,e3,b6,b7⟩:=kG a3 a1 a7 rfl
       have e4:zs.length≤(α i).2:=b6
       have ab:cg h H (H.set i (.row (.ints .u8 zs) e .froz)) (tid true (.ptr i 0))=bd h i (some (.row (.ints .u8 zs) e .froz)):=by
        funext m
        unfold cg bd
        by_cases j:m=i
        ·subst j
         rw [if_pos (.inl (by simp [tid])),if_pos rfl,List.getElem?_set_self bD]
        ·rw [if_neg,if_neg j]
         rintro (I | ⟨I,U⟩)
         ·simp [tid] at I;exact j I
         ·simp at U;omega
       obtain ⟨b8,ch,ct,c0⟩:=Wz (n:=z.toNat) M
       obtain ⟨c5,c8⟩:=Y3 a3 a1 a7 b8 ch ct (fun e1 e5 a6=>by rw [M] at a6;cases a6;exact c0)
       refine rS (w':=w.freeze ⟨(α i).1,0,none⟩ z.toNat) (x:= .string (ofBytes (zs.take z.toNat))) b3 ?_ (c4 D α _ _ (by rw [ab];exact c5) (fun i dy=> .inl dy) (by rw [ab];exact c8) rfl)
       obtain ⟨e0,b5,ts⟩:=c
       simp only at a5 J b1
       subst a5
       have c6:b5= #[p,n]:=by apply Array.toList_inj.1;rw [J]
       have et:ts= #[tp,ti]:=by apply Array.toList_inj.1;rw [b1]
       subst c6 et
       have j:Array.map a.eval #[p,n]= #[a.eval p,a.eval n]:=by simp
       have c7:z.toNat≤cs.size:=by omega
       have eb:=Lib.liesAt_bytes (P:=P) a0 cs.size z.toNat c7
       have bx:=NI (P:=P) (w:=w) (zs.take z.toNat) ⟨(α i).1,0,none⟩ .empty (fun Z G=>List.all_eq_true.1 c3 Z (List.mem_of_mem_take G)) (fun ez Z G=>by
        rw [List.getElem?_take] at G
        split at G
        ·rw [fB,nk M]
         obtain ⟨y,c1,c2⟩:=rj b7 (v:= .val (.int .u8 Z)) (o:=ez) (by show (zs.map _)[_]? =_;rw [List.getElem?_map,G];rfl)
         rw [Nat.zero_add,c1]
         exact congrArg some c2
        ·cases G)
       rw [List.length_take,Nat.min_eq_left U] at bx
       have ev:¬ z < 0:=by omega
       have fh:¬ z > IntKind.i64.max:=by have:IntKind.i64.max=9223372036854775807:=rfl;omega
       have ey:z≠0:=by omega
       unfold execOp
       rw [N]
       have ep:w.shape? (α i).1=some (e,cs.size):=by simp [World.shape?,M]
       have b2:=ad9 (P:=P) (w:=w) (tp:=tp) (ti:=ti) (ty:=o.type) (kn:=kn) eu ev I ey ep a0 eb bx
       have eo:(⟨ByteArray.empty.data ++ (List.map (fun z=>UInt8.ofNat z.toNat) (List.take z.toNat zs)).toArray⟩:ByteArray)=ofBytes (zs.take z.toNat):=by
        apply ByteArray.ext
        simp [ofBytes]
       rw [eo] at b2
       simp only [resolve,Sem.run_bind,Sem.run_pure,Result.andThen,invoke,builtin,j,S,eN,b2]
     ·cases h
    ·cases h
   ·cases h
  ·rename_i v O
   have:=pE (ro:=ro) (lo:=lo) b3 h
   rw [O]
   exact this
  ·cases h
 ·cases h
theorem Wq {g:FuncId} (h:Ce P g=true) (x:Value) (w:World):(callFunc g #[x]).run P w= .ok (.value x) w:=by
 unfold Ce at h
 split at h
 ·rename_i J ab
  simp only [Bool.and_eq_true,beq_iff_eq,Bool.or_eq_true] at h
  obtain ⟨⟨Z,I⟩,j⟩:=h
  have S:Extern.findNext J=none:=by
   unfold Extern.findNext
   have M : Extern.allNextRows.lookup "internal/abi.NoEscape" = none := by kernel_rfl
   have G : Extern.allNextRows.lookup "" = none := by kernel_rfl
   simp only [I]
   rcases j with j | j <;> simp only [j,M,G] <;> rfl
  have U:Extern.find J=some Extern.AbiNoEscape.same:=by
   unfold Extern.find
   have G : Extern.allGenericRows.lookup "internal/abi.NoEscape" = none := by kernel_rfl
   have N : Extern.allTypedRows.lookup "internal/abi.NoEscape" = none := by kernel_rfl
   have O : Extern.allRows.lookup "internal/abi.NoEscape" = some Extern.AbiNoEscape.same := by kernel_rfl
   simp only [I,G,N,O]
   rfl
  rw [run_callFunc_extern ab (by rw [I];decide) Z S U]
  rfl
 ·cases h
theorem acg {c:Call} {f:Operand} {v:AV} (J:o.op= .call c) (S:c.callee= .value f) (j:Cd P (aA T f) (c.args.toList.map (aA T))=some v) (h:k v H=some r) (rd:Bool) {l:List (Nat×Bool)} (a4:∀ m,(m,true) ∉ l):bf P ro T o H (.some rd l) lo k r:=by
 have a6:∀ c,o.op≠ .defer c:=fun c h=>by rw [J] at h;cases h
 unfold Cd at j
 simp only [Bool.cond_eq_ite] at j
 split at j
 ·rename_i g a b b2 a2 I
  split at j
  ·rename_i U
   cases j
   simp only [Bool.and_eq_true,beq_iff_eq,Array.size_eq_zero_iff] at U
   obtain ⟨⟨a0,a1⟩,a3⟩:=U
   subst a0 a1
   refine dB h a4 a6 (fun B0 w0 b0 D α G w b1 bD O=> ?_)
   obtain ⟨bx,N,ts⟩:=c
   simp only at S I
   subst S
   obtain ⟨p,M⟩:∃ p,N= #[p]:=by
    have:N.toList.length=1:=by have:=congrArg List.length I;simpa using this
    obtain ⟨p,M⟩:=List.length_eq_one_iff.1 this
    exact ⟨p,Array.toList_inj.1 M⟩
   subst M
   simp only [List.map_cons,List.map_nil,List.cons.injEq,and_true] at I
   have Z:=O f (by rw [J];simp [Op.operands,Call.operands])
   have ab:=O p (by rw [J];simp [Op.operands,Call.operands])
   rw [a2] at Z
   rw [I] at ab
   have a7:G.eval f= .func (.func g) #[] #[]:=Z
   refine ⟨G.eval p, ?_,ab⟩
   have a5:Array.map G.eval #[p]= #[G.eval p]:=by simp
   unfold execOp
   rw [J]
   simp only [resolve,a7,Deferred.ofValue,a5,Sem.run_bind,Sem.run_pure,Result.andThen,invoke,Array.empty_append,Array.append_empty,Wq a3]
  ·cases j
 ·cases j
end
end Go.V
namespace Go.V
open Go Go.RowKit
def cd:Nat→Nat×Nat:=fun _=>(0,0)
def bb (P:Program) (C:FuncId→List AV→Option (Bool×AV)):Prop:=
 ∀ g args r,C g args=some (true,r)→∀ (B:Nat→Prop) (w:World) (j:Array Value),(∀ b,B b→b < w.heap.size∧∀ ds,w.heap[b]?≠some (.deferred ds))→ao P cd B w args bh j.toList→
  Calls P g j w fun e w'=>∃ y,e= .returned y∧Below w.heap.size w w'∧r.Rel P cd B w' bh y
def rU (P:Program) (B0:Nat→Prop) (w0:World) (D:Nat→Prop) (α:Nat→Nat×Nat) (h:Hf) (w:World) (n j:Nat) (v:AV) (h':Hf):Ending→World→Prop:=fun e w'=>
 ∃ y D' α',e= .returned y∧Ok P B0 w0 D' α' h' w'∧(∀ i,D' i→D i∨(n≤i∧i < j))∧bB D D' α α' (aQ D α h) (aQ D' α' h') w w'∧v.Rel P α' (Own B0 D' α' h') w' D' y
def m8 (P:Program) (g:FuncId) (args:List AV) (H:Hp) (v:AV) (j:Hp):Prop:=
 ∀ (B0:Nat→Prop) (w0:World) (D:Nat→Prop) (α:Nat→Nat×Nat) (w:World) (G:Array Value),Ok P B0 w0 D α (H[·]?) w→ao P α (Own B0 D α (H[·]?)) w args D G.toList→
  CallsIn Fence.wide 0 P g G w (rU P B0 w0 D α (H[·]?) w H.length j.length v (j[·]?))
def r4 (P:Program) (g:FuncId) (args:List AV) (v:AV):Prop:=
 ∀ (B0:Nat→Prop) (w0:World) (D:Nat→Prop) (α:Nat→Nat×Nat) (h:Hf) (w:World) (j:Array Value),Ok P B0 w0 D α h w→ao P α (Own B0 D α h) w args D j.toList→
  CallsIn Fence.wide 0 P g j w (rU P B0 w0 D α h w 0 0 v h)
def Hc (P:Program) {R:Type} (cf:Nat→FuncId→List AV→Hp→Kn R→Option R):Prop:=
 ∀ lo g args H k r,fH P g=true→cf lo g args H k=some r→∃ v j,k v j=some r∧H.length≤j.length∧(lo≤H.length→∀ m,m < lo→j[m]? =H[m]?)∧m8 P g args H v j
def Jf (P:Program) (i:Nat) (args:List AV) (H:Hp) (v:AV) (j:Hp):Prop:=
 ∀ (B0:Nat→Prop) (w0:World) (D:Nat→Prop) (α:Nat→Nat×Nat) (w:World) (G:Array Value),Ok P B0 w0 D α (H[·]?) w→D i→ao P α (Own B0 D α (H[·]?)) w args D G.toList→
  YieldAt Fence.wide 0 P (α i).1 G w (rU P B0 w0 D α (H[·]?) w H.length j.length v (j[·]?))
def Je (P:Program) {R:Type} (yf:Nat→Nat→List AV→Hp→Kn R→Option R):Prop:=
 ∀ lo i args H k r,yf lo i args H k=some r→∃ v j,k v j=some r∧H.length≤j.length∧(lo≤H.length→∀ m,m < lo→j[m]? =H[m]?)∧Jf P i args H v j
section
variable {R : Type} {P : Program}
theorem qL {v:AV} {α α':Nat→Nat×Nat} {B:Nat→Prop} {w:World} {x:Value} (h:v.Rel P α B w bh x):v.Rel P α' B w bh x:=AV.Rel.mono v x ⟨fun _ h=>h,fun _ h=>h.elim,fun b cs ty fr j G=> ⟨G,j⟩⟩ h
theorem LB {v:AV} {α α':Nat→Nat×Nat} {B:Nat→Prop} {w:World} {D:Nat→Prop} {x:Value} (h:v.Rel P α B w bh x):v.Rel P α' B w D x:=yG (qL h)
theorem Su {v:AV} (j:owns v=false) {D:Nat→Prop} {α α':Nat→Nat×Nat} {B:Nat→Prop} {w:World} {x:Value} (h:v.Rel P α B w D x):v.Rel P α' B w bh x:=by
 cases v with
 | val v=>exact h
 | lst fl t n f=>exact qL (α:=α) (v:= .lst fl t n f) h
 | eptr t n f O off=>exact qL (α:=α) (v:= .eptr t n f O off) h
 | agg cs=>
  obtain ⟨J,rfl,G⟩:=h
  refine ⟨J,rfl, ?_⟩
  simp only [owns,Bool.not_eq_false'] at j
  generalize J.toList=l at G
  induction cs generalizing l with
  | nil=>exact G
  | cons c cs N=>
   obtain ⟨y,zs,rfl,I,M⟩:=G
   rw [List.all_cons,Bool.and_eq_true] at j
   refine ⟨y,zs,rfl, ?_,N j.2 _ M⟩
   cases c with
   | val v=>exact I
   | lst fl t n f=>exact qL (α:=α) (v:= .lst fl t n f) I
   | _=>simp at j
 | _=>simp [owns] at j
theorem JL:∀ {vs:List AV},vs.any owns=false→∀ {D:Nat→Prop} {α α':Nat→Nat×Nat} {B:Nat→Prop} {w:World} {j:List Value},ao P α B w vs D j→ao P α' B w vs bh j
 | [],_,D,α,α',B,w,j,h=>h
 | v :: vs,G,D,α,α',B,w,j,h=>by
  obtain ⟨y,zs,rfl,I,J⟩:=h
  rw [List.any_cons,Bool.or_eq_false_iff] at G
  exact ⟨y,zs,rfl,Su G.1 I,JL G.2 J⟩
theorem LZ {B0:Nat→Prop} {w0:World} {D:Nat→Prop} {α:Nat→Nat×Nat} {h:Hf} {w:World} (G:Ok P B0 w0 D α h w):∀ b,Own B0 D α h b→b < w.heap.size∧∀ ds,w.heap[b]?≠some (.deferred ds):=by
 rintro b (j | j)
 ·exact G.cJ b j
 ·refine ⟨?_,fun ds I=>C8 G I j⟩
  obtain ⟨i,k,J,_,_,rfl⟩:=j
  exact (G.fresh i J).2
theorem Sf {C:FuncId→List AV→Option (Bool×AV)} (G:bb P C) {g:FuncId} {args:List AV} {v:AV} (h:C g args=some (true,v)) (U:args.any owns=false):r4 P g args v:=by
 intro B0 w0 D α N w ab j J
 refine callsIn_wide.2 (Calls.mono (G g args v h (Own B0 D α N) w ab (LZ j) (JL U J)) ?_)
 rintro e w' ⟨y,rfl,M,Z⟩
 obtain ⟨I,O⟩:=oT j M
 exact ⟨y,D,α,rfl,I,fun i S=> .inl S,O,LB Z⟩
theorem r4.sY {g:FuncId} {args:List AV} {v:AV} (h:r4 P g args v) (H:Hp):m8 P g args H v H:=by
 intro B0 w0 D α w U N O
 refine (h B0 w0 D α _ w U N O).mono ?_
 rintro e w' ⟨y,D',α',j,G,I,J,M⟩
 exact ⟨y,D',α',j,G,fun i S=>(I i S).elim .inl (fun h=>by omega),J,M⟩
theorem B8 {f:AV→(AV→Option R)→Option R} {Q:AV→AV→Prop} (M:∀ v k r,f v k=some r→∃ j,k j=some r∧Q v j):∀ (l:List AV) (k:List AV→Option R) (r:R),mo f l k=some r→∃ G:List AV,k G=some r∧G.length=l.length∧∀ (i:Nat) (v j:AV),l[i]? =some v→G[i]? =some j→Q v j
 | [],k,r,h=> ⟨[],h,rfl,fun i v j h=>by simp at h⟩
 | v :: l,k,r,h=>by
  obtain ⟨j,N,O⟩:=M v _ r h
  obtain ⟨G,S,U,Z⟩:=B8 M l _ r N
  refine ⟨j :: G,S,by simp [U],fun i u ab I J=> ?_⟩
  cases i with
  | zero=>simp only [List.getElem?_cons_zero,Option.some.injEq] at I J;subst I J;exact O
  | succ i=>rw [List.getElem?_cons_succ] at I J;exact Z i u ab I J
def pY (H:Hp) (ids:List Nat) (j:Hf):Prop:=∀ i c ty st,H[i]? =some (.row c ty st)→(st= .live∧i ∈ ids∨st= .froz)→j i=some (.row c ty .froz)
theorem Ux {D:Nat→Prop} {α:Nat→Nat×Nat} {B:Nat→Prop} {w:World} {c:aC} {M:List AV} {off sz len:Nat} {cs:Array Value} (O:ao P α B w c.a9 D (cs.toList.take c.len)) (a5:off+len*sz≤c.len) (a1:∀ l,c= .cells l→M.length=l.length∧∀ (i:Nat) (v Z:AV),l[i]? =some v→M[i]? =some Z→∀ x,v.Rel P α B w D x→Z.Rel P α B w bh x):
  ∀ j q,j < len→q < sz→∃ y,cs[off+j*sz+q]? =some y∧(ig c M off sz j q).Rel P α B w bh y:=by
 intro j q a0 a6
 have N:off+j*sz+q < c.len:=by
  have:(j+1)*sz≤len*sz:=Nat.mul_le_mul_right _ a0
  rw [Nat.succ_mul] at this
  omega
 cases c with
 | cells l=>
  obtain ⟨a4,ab⟩:=a1 l rfl
  have G:off+j*sz+q < l.length:=N
  have S:off+j*sz+q < M.length:=by omega
  obtain ⟨y,J,I⟩:=rj O (v:=l[off+j*sz+q]) (List.getElem?_eq_getElem G)
  refine ⟨y,J, ?_⟩
  show (M.getD (off+j*sz+q) .any).Rel P α B w bh y
  rw [List.getD_eq_getElem?_getD,List.getElem?_eq_getElem S]
  exact ab _ _ _ (List.getElem?_eq_getElem G) (List.getElem?_eq_getElem S) y I
 | ints a3 zs=>
  have G:off+j*sz+q < zs.length:=N
  obtain ⟨y,J,I⟩:=rj O (v:= .val (.int a3 zs[off+j*sz+q])) (by show (zs.map _)[_]? =_;rw [List.getElem?_map,List.getElem?_eq_getElem G];rfl)
  refine ⟨y,J, ?_⟩
  unfold ig
  simp only
  cases U:(sz==1) with
  | true=>
   rw [beq_iff_eq] at U
   subst U
   have a2:q=0:=by omega
   subst a2
   simp only [cond]
   have:(zs.drop off).getD j 0=zs[off+j*1+0]:=by
    rw [List.getD_eq_getElem?_getD,List.getElem?_drop,show off+j=off+j*1+0 by omega,List.getElem?_eq_getElem G];rfl
   rw [this]
   exact I
  | false=>
   simp only [cond]
   rw [List.getD_eq_getElem?_getD,List.getElem?_eq_getElem G]
   exact I
 | vals vs=>
  have G:off+j*sz+q < vs.length:=N
  obtain ⟨y,J,I⟩:=rj O (v:= .val vs[off+j*sz+q]) (by show (vs.map _)[_]? =_;rw [List.getElem?_map,List.getElem?_eq_getElem G];rfl)
  refine ⟨y,J, ?_⟩
  show (AV.val (vs.getD (off+j*sz+q) undef)).Rel P α B w bh y
  rw [List.getD_eq_getElem?_getD,List.getElem?_eq_getElem G]
  exact I
theorem vb {D:Nat→Prop} {α:Nat→Nat×Nat} {B:Nat→Prop} {w:World} {l j:List AV} (J:j.length=l.length) (h:∀ (i:Nat) (v G:AV),l[i]? =some v→j[i]? =some G→∀ x,v.Rel P α B w D x→G.Rel P α B w bh x) {O:List Value} (M:ao P α B w l D O):ao P α B w j bh O:=by
 refine ao.nG (by rw [ao.len M,J]) (fun i G N=> ?_)
 have I:i < l.length:=by rw [← J];exact (List.getElem?_eq_some_iff.1 N).1
 obtain ⟨y,S,U⟩:=ao.get M (List.getElem?_eq_getElem I)
 exact ⟨y,S,h _ _ _ (List.getElem?_eq_getElem I) N y U⟩
theorem Cq {H : Hp} : ∀ (d : Nat) (v : AV) (k : AV → Option R) (r : R), kH P H d v k = some r → ∃ O, k O = some r ∧
    ∀ {B0 : Nat → Prop} {w0 : World} {D : Nat → Prop} {α : Nat → Nat × Nat} {j : Hf} {w : World}, Ok P B0 w0 D α j w → pY H (cr H d [v]) j → ∀ x, v.Rel P α (Own B0 D α j) w D x → O.Rel P α (Own B0 D α j) w bh x
  | 0, v, k, r, h => by simp [kH] at h
  | d + 1, v, k, r, h => by
    have sub : ∀ (l : List AV) (K : List AV → Option R) (r : R), mo (kH P H d) l K = some r → ∃ S : List AV, K S = some r ∧ S.length = l.length ∧
        ∀ {B0 : Nat → Prop} {w0 : World} {D : Nat → Prop} {α : Nat → Nat × Nat} {j : Hf} {w : World}, Ok P B0 w0 D α j w → pY H (cr H d l) j → ∀ (i : Nat) (v O : AV), l[i]? = some v → S[i]? = some O → ∀ x, v.Rel P α (Own B0 D α j) w D x → O.Rel P α (Own B0 D α j) w bh x := by
      intro l K r a3
      obtain ⟨S, j, Z, ab⟩ := B8 (Q := fun v O => ∀ {B0 : Nat → Prop} {w0 : World} {D : Nat → Prop} {α : Nat → Nat × Nat} {j : Hf} {w : World}, Ok P B0 w0 D α j w → pY H (cr H d [v]) j → ∀ x, v.Rel P α (Own B0 D α j) w D x → O.Rel P α (Own B0 D α j) w bh x) (fun v k r h => Cq d v k r h) l K r a3
      refine ⟨S, j, Z, fun {B0 w0 D α j w} J M i v O b2 c5 x N => ab i v O b2 c5 J (fun I c ty st G U => M I c ty st G (U.elim (fun e => .inl ⟨e.1, ?_⟩) .inr)) x N⟩
      have c1 := List.mem_of_getElem? b2
      cases d with
      | zero => exact absurd e.2 (by simp [cr])
      | succ d =>
        simp only [cr, List.flatMap_cons, List.flatMap_nil, List.append_nil] at e ⊢
        exact List.mem_flatMap.2 ⟨v, c1, e.2⟩
    unfold kH at h
    simp only [Bool.cond_eq_ite] at h
    split at h
    · exact ⟨_, h, fun _ _ x N => N⟩
    · rename_i fl t i off len
      split at h
      · rename_i c ty st bx
        split at h
        · cases h
        · rename_i U
          split at h
          · rename_i a4
            have a4 := of_decide_eq_true a4
            have a7 : ∀ (S : List AV), k (.lst fl t len (ig c S off (P.cellsOf t))) = some r → (∀ {B0 : Nat → Prop} {w0 : World} {D : Nat → Prop} {α : Nat → Nat × Nat} {j : Hf} {w : World}, Ok P B0 w0 D α j w → pY H (cr H d c.yS) j → ∀ l, c = .cells l → S.length = l.length ∧ ∀ (i : Nat) (v O : AV), l[i]? = some v → S[i]? = some O → ∀ x, v.Rel P α (Own B0 D α j) w D x → O.Rel P α (Own B0 D α j) w bh x) → ∃ O, k O = some r ∧
                ∀ {B0 : Nat → Prop} {w0 : World} {D : Nat → Prop} {α : Nat → Nat × Nat} {j : Hf} {w : World}, Ok P B0 w0 D α j w → pY H (cr H (d + 1) [.sl fl t i off len]) j → ∀ x, (AV.sl fl t i off len).Rel P α (Own B0 D α j) w D x → O.Rel P α (Own B0 D α j) w bh x := by
              intro S ct a3
              refine ⟨_, ct, fun {B0 w0 D α j w} J M x N => ?_⟩
              have b1 : ∀ I, (I = i ∧ st = .live ∨ I ∈ cr H d c.yS) → I ∈ cr H (d + 1) [.sl fl t i off len] := by
                intro I G
                simp only [cr, List.flatMap_cons, List.flatMap_nil, List.append_nil, bx]
                cases st with
                | live => rcases G with ⟨rfl, _⟩ | G
                          · exact List.mem_cons_self
                          · exact List.mem_cons_of_mem _ G
                | froz => rcases G with ⟨_, G⟩ | G
                          · cases G
                          · exact G
                | dead => simp at U
              have bD : j i = some (.row c ty .froz) := M i c ty st bx (by
                cases st with
                | live => exact .inl ⟨rfl, b1 i (.inl ⟨rfl, rfl⟩)⟩
                | froz => exact .inr rfl
                | dead => simp at U)
              obtain ⟨b0, cap, c7, rfl, b8, ch, a5⟩ := N
              obtain ⟨cs, fr, b3, ed, eh, en, b4⟩ := kG J b0 bD rfl
              refine ⟨_, cap, rfl, b8, ch, ?_⟩
              by_cases c6 : len = 0
              · exact .inl c6
              · right
                rcases a5 with a5 | ⟨rfl, a5⟩
                · omega
                · refine ⟨_, c7, cs, ty, fr, rfl, J.cV i _ b0 bD rfl, b3, ?_⟩
                  exact Ux b4 a4 (fun l c0 => a3 J (fun I c' dx c8 G c4 => M I c' dx c8 G (c4.elim (fun e => .inl ⟨e.1, b1 I (.inr e.2)⟩) .inr)) l c0)
            cases c with
            | cells l =>
              obtain ⟨S, j, Z, ab⟩ := sub l _ r h
              exact a7 S j (fun {B0 w0 D α a2 w} J M l2 a0 => by cases a0; exact ⟨Z, ab J M⟩)
            | ints ep zs => exact a7 [] h (fun {B0 w0 D α j w} J M l2 a0 => by cases a0)
            | vals vs => exact a7 [] h (fun {B0 w0 D α j w} J M l2 a0 => by cases a0)
          · cases h
      · cases h
    · exact ⟨_, h, fun _ _ x N => qL N⟩
    · exact ⟨_, h, fun _ _ x N => qL N⟩
    · rename_i cs
      obtain ⟨S, j, Z, ab⟩ := sub cs _ r h
      refine ⟨_, j, fun {B0 w0 D α a2 w} J M x N => ?_⟩
      obtain ⟨a1, rfl, a6⟩ := N
      exact ⟨a1, rfl, vb Z (ab J (fun I c ty st G U => M I c ty st G (U.elim (fun e => .inl ⟨e.1, by simpa [cr] using e.2⟩) .inr))) a6⟩
    · rename_i cs
      obtain ⟨S, j, Z, ab⟩ := sub cs _ r h
      refine ⟨_, j, fun {B0 w0 D α a2 w} J M x N => ?_⟩
      obtain ⟨a1, rfl, a6⟩ := N
      exact ⟨a1, rfl, vb Z (ab J (fun I c ty st G U => M I c ty st G (U.elim (fun e => .inl ⟨e.1, by simpa [cr] using e.2⟩) .inr))) a6⟩
    · rename_i eo a b
      obtain ⟨eb, j, Z, ab⟩ := sub a _ r h
      obtain ⟨ec, b5, b6, b7⟩ := sub b _ r j
      refine ⟨_, b5, fun {B0 w0 D α a2 w} J M x N => ?_⟩
      obtain ⟨dy, a1, rfl, c2, c3⟩ := N
      exact ⟨dy, a1, rfl, vb Z (ab J (fun I c ty st G U => M I c ty st G (U.elim (fun e => .inl ⟨e.1, by simp [cr]; exact .inl e.2⟩) .inr))) c2,
        vb b6 (b7 J (fun I c ty st G U => M I c ty st G (U.elim (fun e => .inl ⟨e.1, by simp [cr]; exact .inr e.2⟩) .inr))) c3⟩
    · cases h
end
end Go.V
namespace Go.V
open Go Go.RowKit
section
variable {R : Type} {P : Program}
theorem WB (H:Hp) (i:Nat):(gB H i).length=H.length:=by
 unfold gB
 split
 ·simp
 ·rfl
theorem KH:∀ (ids:List Nat) (H:Hp),(gC ids H).length=H.length
 | [],H=>rfl
 | i :: ids,H=>by unfold gC;rw [List.foldl_cons];exact (KH ids _).trans (WB H i)
theorem Cs (H:Hp) (i G:Nat):(gB H i)[G]? =(if G=i then (match H[i]? with | some (.row c ty .live)=>some (.row c ty .froz) | x=>x) else H[G]?):=by
 unfold gB
 split
 ·rename_i c ty I
  by_cases j:G=i
  ·subst j;rw [if_pos rfl,List.getElem?_set_self (List.getElem?_eq_some_iff.1 I).1,I]
  ·rw [if_neg j,List.getElem?_set_ne (Ne.symm j)]
 ·rename_i M
  by_cases j:G=i
  ·subst j
   rw [if_pos rfl]
   split
   ·rename_i c ty J;exact absurd J (M c ty)
   ·rfl
  ·rw [if_neg j]
theorem yd:∀ (ids:List Nat) {H:Hp} {B0:Nat→Prop} {w0:World} {D:Nat→Prop} {α:Nat→Nat×Nat} {w:World},Ok P B0 w0 D α (H[·]?) w→Ok P B0 w0 D α ((gC ids H)[·]?) w∧bB D D α α (aQ D α (H[·]?)) (aQ D α ((gC ids H)[·]?)) w w
 | [],H,B0,w0,D,α,w,M=> ⟨M,bB.refl _ _ _ _⟩
 | i :: ids,H,B0,w0,D,α,w,M=>by
  have a3:Ok P B0 w0 D α ((gB H i)[·]?) w∧bB D D α α (aQ D α (H[·]?)) (aQ D α ((gB H i)[·]?)) w w:=by
   cases U:H[i]? with
   | none=>
    have:gB H i=H:=by unfold gB;rw [U]
    rw [this];exact ⟨M,bB.refl _ _ _ _⟩
   | some b=>
    by_cases N:∃ c ty,b= .row c ty .live
    ·obtain ⟨c,ty,rfl⟩:=N
     have e:((gB H i)[·]?)=bd (H[·]?) i (some (.row c ty .froz)):=by
      funext j
      rw [Cs,U]
      rfl
     rw [e]
     by_cases S:D i
     ·exact LQ M S U (.inr ⟨rfl,rfl⟩)
     ·have a0:∀ b,aQ D α (bd (H[·]?) i (some (.row c ty .froz))) b↔aQ D α (H[·]?) b:=by
       intro b
       constructor
       ·rintro ⟨j,k,G,I,J,Z⟩
        rw [bK _ _ (fun e:j=i=>S (e ▸ G))] at I
        exact ⟨j,k,G,I,J,Z⟩
       ·rintro ⟨j,k,G,I,J,Z⟩
        exact ⟨j,k,G,by rw [bK _ _ (fun e:j=i=>S (e ▸ G))];exact I,J,Z⟩
      have O:∀ {j},D j→bd (H[·]?) i (some (.row c ty .froz)) j=H[j]? :=fun {j} G=>bK _ _ (fun e:j=i=>S (e ▸ G))
      have a2:bB D D α α (aQ D α (H[·]?)) (aQ D α (bd (H[·]?) i (some (.row c ty .froz)))) w w:= ⟨fun _ h=>h,fun _ _=>rfl,fun b o I J=> ⟨fun h=>J ((a0 b).1 h),I⟩⟩
      refine ⟨⟨fun j G=>by rw [O G];exact M.lt j G,M.below,M.cJ,fun b a4 ab=>M.sep b a4 ((a0 b).1 ab),M.fresh,fun a b a6 a7 a1 N I J=> ?_,fun j k G I J ab=> ?_,fun j k G I=> ?_⟩,a2⟩
      ·rw [O a1] at I;rw [O N] at J;exact M.inj a b a6 a7 a1 N I J
      ·rw [O G] at I;exact M.cV j k G I J (ab.elim .inl (fun h=> .inr ((a0 _).1 h)))
      ·rw [O G] at I;exact cM.mono (a2.keeps B0) (fun o a5 _=>a5) (M.cN j k G I)
    ·have:gB H i=H:=by
      unfold gB
      rw [U]
      split
      ·rename_i c ty h;cases h;exact absurd ⟨_,_,rfl⟩ N
      ·rfl
     rw [this];exact ⟨M,bB.refl _ _ _ _⟩
  have J:=yd ids (H:=gB H i) a3.1
  unfold gC
  rw [List.foldl_cons]
  exact ⟨J.1,a3.2.trans J.2⟩
theorem Ct:∀ (ids:List Nat) (H:Hp) (i:Nat) (c:aC) (ty:TypeId),(H[i]? =some (.row c ty .froz)∨H[i]? =some (.row c ty .live)∧i ∈ ids)→(gC ids H)[i]? =some (.row c ty .froz)
 | [],H,i,c,ty,h=>by
  rcases h with h | ⟨_,h⟩
  ·exact h
  ·cases h
 | I :: ids,H,i,c,ty,h=>by
  unfold gC
  rw [List.foldl_cons]
  apply Ct ids
  rw [Cs]
  by_cases G:i=I
  ·subst G
   left
   rw [if_pos rfl]
   rcases h with h | ⟨h,_⟩ <;> rw [h]
  ·rw [if_neg G]
   rcases h with h | ⟨h,j⟩
   ·exact .inl h
   ·rcases List.mem_cons.1 j with j | j
    ·exact absurd j G
    ·exact .inr ⟨h,j⟩
theorem KI:∀ (ids:List Nat) (H:Hp) (m:Nat),m ∉ ids→(gC ids H)[m]? =H[m]?
 | [],H,m,_=>rfl
 | j :: ids,H,m,h=>by
  unfold gC
  rw [List.foldl_cons]
  have G:m≠j:=fun e=>h (e ▸ List.mem_cons_self)
  have:=KI ids (gB H j) m (fun I=>h (List.mem_cons_of_mem _ I))
  unfold gC at this
  rw [this,Cs,if_neg G]
theorem MS {v:AV} (h:q8 v=true) {α α':Nat→Nat×Nat} {B B':Nat→Prop} {w w':World} {D D':Nat→Prop} {x:Value} (j:v.Rel P α B w D x):v.Rel P α' B' w' D' x:=by
 cases v with
 | val v=>exact j
 | agg cs=>
  obtain ⟨G,rfl,j⟩:=j
  refine ⟨G,rfl, ?_⟩
  simp only [q8] at h
  generalize G.toList=l at j
  induction cs generalizing l with
  | nil=>exact j
  | cons c cs M=>
   obtain ⟨y,zs,rfl,I,J⟩:=j
   rw [List.all_cons,Bool.and_eq_true] at h
   refine ⟨y,zs,rfl, ?_,M h.2 _ J⟩
   cases c with
   | val v=>exact I
   | _=>simp [isVal] at h
 | _=>simp [q8] at h
theorem Zt {v:AV} (h:yl v=true) {α α':Nat→Nat×Nat} {B B':Nat→Prop} {w w':World} {D D':Nat→Prop} {x:Value} (j:v.Rel P α B w D x):v.Rel P α' B' w' D' x:=by
 cases v with
 | val v=>exact j
 | agg cs=>exact MS (v:= .agg cs) h j
 | tup cs=>
  obtain ⟨G,rfl,j⟩:=j
  refine ⟨G,rfl, ?_⟩
  simp only [yl] at h
  generalize G.toList=l at j
  induction cs generalizing l with
  | nil=>exact j
  | cons c cs M=>
   obtain ⟨y,zs,rfl,I,J⟩:=j
   rw [List.all_cons,Bool.and_eq_true] at h
   exact ⟨y,zs,rfl,MS h.1 I,M h.2 _ J⟩
 | _=>simp [yl,q8] at h
structure eT (x:Cx R):Prop where
 C:bb x.P x.E.C
 cf:Hc x.P x.cf
 yf:Je x.P x.yf
theorem Sd {x:Cx R} (bD:eT x) {g:FuncId} {args:List AV} {H:Hp} {k:Kn R} {r:R} (h:sn x g args H k=some r):
  fH x.P g=true∧∃ v j,k v j=some r∧H.length≤j.length∧(x.lo≤H.length→∀ m,m < x.lo→j[m]? =H[m]?)∧m8 x.P g args H v j∧(args.any owns=false→(x.E.C g args).isSome=true→j=H∧r4 x.P g args v):=by
 unfold sn at h
 simp only [Bool.cond_eq_ite] at h
 split at h
 ·rename_i b5
  refine ⟨b5, ?_⟩
  have inline:x.cf x.lo g args H k=some r→∃ v j,k v j=some r∧H.length≤j.length∧(x.lo≤H.length→∀ m,m < x.lo→j[m]? =H[m]?)∧m8 x.P g args H v j:=fun c0=>bD.cf x.lo g args H k r b5 c0
  split at h
  ·rename_i S
   have ch:(∃ v j,k v j=some r∧H.length≤j.length∧(x.lo≤H.length→∀ m,m < x.lo→j[m]? =H[m]?)∧m8 x.P g args H v j)→∃ v j,k v j=some r∧H.length≤j.length∧(x.lo≤H.length→∀ m,m < x.lo→j[m]? =H[m]?)∧m8 x.P g args H v j∧(args.any owns=false→(x.E.C g args).isSome=true→j=H∧r4 x.P g args v):=by
    rintro ⟨v,j,G,J,N,a0⟩
    exact ⟨v,j,G,J,N,a0,fun h=>by rw [S] at h;cases h⟩
   apply ch
   split at h
   ·obtain ⟨b1,G,J,N⟩:=B8 (Q:=fun v b0=>∀ {B0:Nat→Prop} {w0:World} {D:Nat→Prop} {α:Nat→Nat×Nat} {G:Hf} {w:World},Ok x.P B0 w0 D α G w→pY H (cr H 8 [v]) G→∀ y,v.Rel x.P α (Own B0 D α G) w D y→b0.Rel x.P α (Own B0 D α G) w bh y) (fun v k r h=>Cq 8 v k r h) args _ r h
    unfold JD at G
    simp only [Bool.cond_eq_ite] at G
    split at G
    ·rename_i U bx
     split at G
     ·rename_i a2
      have b8:∀ (B0:Nat→Prop) (w0:World) (D:Nat→Prop) (α:Nat→Nat×Nat) (w:World) (I:Array Value),Ok x.P B0 w0 D α (H[·]?) w→ao x.P α (Own B0 D α (H[·]?)) w args D I.toList→
        CallsIn Fence.wide 0 x.P g I w (fun e w'=>∃ y,e= .returned y∧Below w.heap.size w w'∧U.2.Rel x.P cd (Own B0 D α ((gC (cr H 8 args) H)[·]?)) w' bh y):=by
       intro B0 w0 D α w I M O
       obtain ⟨Z,a5⟩:=yd (cr H 8 args) M
       have c4:=ao.mono _ _ (a5.keeps B0) O
       have c5:ao x.P α (Own B0 D α ((gC (cr H 8 args) H)[·]?)) w b1 bh I.toList:=vb J (fun i v b0 b7 c6 y c7=>N i v b0 b7 c6 Z (fun dy c ty st b4 ab=>by
        apply Ct
        rcases ab with ⟨rfl,ab⟩ | rfl
        ·refine .inr ⟨b4, ?_⟩
         simp only [cr,List.flatMap_cons,List.flatMap_nil,List.append_nil] at ab ⊢
         exact List.mem_flatMap.2 ⟨v,List.mem_of_getElem? b7,ab⟩
        ·exact .inl b4) y c7) c4
       have ct:=bD.C g b1 U.2 (by rw [bx];exact congrArg some (by rw [← a2])) (Own B0 D α ((gC (cr H 8 args) H)[·]?)) w I (LZ Z) (ao.mono _ _ ⟨fun _ h=>h,fun _ h=>h.elim,fun b cs ty fr G J=> ⟨J,G⟩⟩ c5)
       exact callsIn_wide.2 ct
      split at G
      ·rename_i c3
       refine ⟨_,H,G,Nat.le_refl _,fun _ _ _=>rfl,fun B0 w0 D α w I M O=>(b8 B0 w0 D α w I M O).mono ?_⟩
       rintro e w' ⟨y,rfl,a3,a7⟩
       obtain ⟨a1,a4⟩:=oT M a3
       exact ⟨y,D,α,rfl,a1,fun i a6=> .inl a6,a4,Zt c3 a7⟩
      ·split at G
       ·rename_i b2
        rw [List.all_eq_true] at b2
        refine ⟨_,_,G,by rw [KH];exact Nat.le_refl _,fun c8 m dx=>KI _ _ _ (fun c1=> ?_),fun B0 w0 D α w I M O=>(b8 B0 w0 D α w I M O).mono ?_⟩
        ·have:=of_decide_eq_true (b2 m c1);omega
        ·rintro e w' ⟨y,rfl,a3,a7⟩
         obtain ⟨Z,a5⟩:=yd (cr H 8 args) M
         obtain ⟨a1,a4⟩:=oT Z a3
         exact ⟨y,D,α,rfl,a1,fun i a6=> .inl a6,a5.trans a4,LB a7⟩
       ·cases G
     ·cases G
    ·exact inline G
   ·exact inline h
  ·rename_i S
   have S:args.any owns=false:=by simpa using S
   unfold JE at h
   split at h
   ·rename_i U bx
    simp only [Bool.cond_eq_ite] at h
    split at h
    ·rename_i a2
     have b3:=Sf bD.C (g:=g) (args:=args) (v:=U.2) (by rw [bx];exact congrArg some (by rw [← a2])) S
     exact ⟨U.2,H,h,Nat.le_refl _,fun _ _ _=>rfl,b3.sY H,fun _ _=> ⟨rfl,b3⟩⟩
    ·cases h
   ·rename_i c2
    obtain ⟨v,j,G,J,N,a0⟩:=inline h
    exact ⟨v,j,G,J,N,a0,fun _ b6=>by rw [c2] at b6;cases b6⟩
 ·cases h
end
end Go.V
namespace Go.V
open Go Go.RowKit
section
variable {P : Program} {D D1 : Nat → Prop} {α α1 : Nat → Nat × Nat} {B B1 : Nat → Prop} {w : World} {ρ : Nat → Nat} {r : List Nat}
theorem CZ {v:AV} {x:Value} (I:∀ b,B1 b→B b) (h:v.Rel P α B w bh x):v.Rel P α1 B1 w bh x:=AV.Rel.mono v x ⟨fun _ h=>h,fun _ h=>h.elim,fun b cs ty fr j G=> ⟨fun h=>G (I b h),j⟩⟩ h
mutual
theorem aao (J:∀ i ∈ r,D i→D1 (ρ i)∧α1 (ρ i)=α i) (N:∀ b,B1 b→B b):∀ (v:AV) (x:Value),(∀ i ∈ KV v,i ∈ r)→v.Rel P α B w D x→(rh ρ v).Rel P α1 B1 w D1 x
 | .any,x,j,h=>trivial
 | .val v,x,j,h=>h
 | .ptr i off,x,j,h=>by
  obtain ⟨G,I⟩:=J i (j i (List.mem_singleton.2 rfl)) h.1
  exact ⟨G,by rw [I];exact h.2⟩
 | .sl fl t i off len,x,j,h=>by
  obtain ⟨G,I⟩:=J i (j i (List.mem_singleton.2 rfl)) h.1
  exact ⟨G,by rw [I];exact h.2⟩
 | .lst fl t n f,x,j,h=>CZ (v:= .lst fl t n f) (α:=α) N h
 | .eptr t n f S off,x,j,h=>CZ (v:= .eptr t n f S off) (α:=α) N h
 | .agg cs,x,j,h=>by
  obtain ⟨M,G,I⟩:=h
  exact ⟨M,G,mO J N cs _ j I⟩
 | .tup cs,x,j,h=>by
  obtain ⟨M,G,I⟩:=h
  exact ⟨M,G,mO J N cs _ j I⟩
 | .clo Z a b,x,j,h=>by
  obtain ⟨U,M,G,I,O⟩:=h
  exact ⟨U,M,G,mO J N a _ (fun i h=>j i (List.mem_append_left _ h)) I,mO J N b _ (fun i h=>j i (List.mem_append_right _ h)) O⟩
 | .yld i,x,j,h=>by
  obtain ⟨G,I⟩:=J i (j i (List.mem_singleton.2 rfl)) h.1
  exact ⟨G,by rw [I];exact h.2⟩
theorem mO (J:∀ i ∈ r,D i→D1 (ρ i)∧α1 (ρ i)=α i) (N:∀ b,B1 b→B b):∀ (l:List AV) (M:List Value),(∀ i ∈ e8 l,i ∈ r)→ao P α B w l D M→ao P α1 B1 w (eQ ρ l) D1 M
 | [],M,j,h=>h
 | v :: l,M,j,h=>by
  obtain ⟨y,zs,G,I,O⟩:=h
  exact ⟨y,zs,G,aao J N v y (fun i h=>j i (List.mem_append_left _ h)) I,mO J N l zs (fun i h=>j i (List.mem_append_right _ h)) O⟩
end
mutual
theorem aan:∀ v:AV,rh (fun i=>i) v=v
 | .any=>rfl
 | .val v=>rfl
 | .ptr i off=>rfl
 | .sl fl t i off len=>rfl
 | .lst fl t n f=>rfl
 | .eptr t n f G off=>rfl
 | .agg cs=>by unfold rh;rw [ri cs]
 | .tup cs=>by unfold rh;rw [ri cs]
 | .clo j a b=>by unfold rh;rw [ri a,ri b]
 | .yld i=>rfl
theorem ri:∀ l:List AV,eQ (fun i=>i) l=l
 | []=>rfl
 | v :: l=>by unfold eQ;rw [aan v,ri l]
end
theorem CC (J:∀ i ∈ r,D i→D1 i) {l:List AV} {j:List Value} (M:∀ i ∈ e8 l,i ∈ r) (h:ao P α B w l D j):ao P α B w l D1 j:=by
 have:=mO (P:=P) (α1:=α) (D1:=D1) (B1:=B) (ρ:=fun i=>i) (r:=r) (fun i G I=> ⟨J i G I,rfl⟩) (fun _ h=>h) l j M h
 rwa [ri] at this
theorem Q1 (O:∀ i ∈ r,D i→D1 i) (c:aC) {j:List Value} (S:∀ i ∈ c.ids,i ∈ r) (h:ao P α B w c.a9 D j):ao P α B w c.a9 D1 j:=by
 have J:∀ (l:List AV),(∀ v ∈ l,∃ y,v= .val y)→∀ j,ao P α B w l D j→ao P α B w l D1 j:=by
  intro l
  induction l with
  | nil=>intro _ j h;exact h
  | cons v l U=>
   intro I j h
   obtain ⟨y,zs,rfl,M,N⟩:=h
   obtain ⟨u,rfl⟩:=I v List.mem_cons_self
   exact ⟨y,zs,rfl,M,U (fun v G=>I v (List.mem_cons_of_mem _ G)) zs N⟩
 cases c with
 | cells l=>exact CC O S h
 | ints k zs=>exact J _ (fun v G=>by obtain ⟨z,_,rfl⟩:=List.mem_map.1 G;exact ⟨_,rfl⟩) j h
 | vals vs=>exact J _ (fun v G=>by obtain ⟨z,_,rfl⟩:=List.mem_map.1 G;exact ⟨_,rfl⟩) j h
theorem Q5 (N:∀ i ∈ r,D i→D1 i) {k:bG} {a:Nat×Nat} (O:∀ i ∈ k.ids,i ∈ r) (h:cM P α B w D k a):cM P α B w D1 k a:=by
 cases k with
 | row c ty st=>
  rcases h with h | ⟨cs,fr,j,G,I,J,M⟩
  ·exact .inl h
  ·by_cases S:st= .dead
   ·exact .inl S
   ·exact .inr ⟨cs,fr,j,G,I,J,Q1 N c (fun i h=>O i (by cases st <;> first | exact h | exact absurd rfl S)) M⟩
 | loop Z=>
  obtain ⟨L,j,G,I,J,M,U⟩:=h
  exact ⟨L,j,G,I,J,M,CC N O U⟩
theorem Se {g:FuncId} {args:List AV} {H a0:Hp} {v:AV} (eu:m8 P g args H v a0) (e0:∀ m,m < H.length→a0[m]? =H[m]?) (c1:su r args H=true) (B0:Nat→Prop) (w0:World) (D:Nat→Prop) (α:Nat→Nat×Nat) (h:Hf) (w:World) (c2:Array Value)
  (bD:∀ m ∈ r,h m=H[m]?) (ab:Ok P B0 w0 D α h w) (dx:∀ i,H.length≤i→i < a0.length→¬ D i) (eo:ao P α (Own B0 D α h) w args D c2.toList):
  CallsIn Fence.wide 0 P g c2 w fun e w'=>∃ y D' α',e= .returned y∧Ok P B0 w0 D' α' (cg h H a0 (r.map fun i=>(i,false))) w'∧(∀ i,D' i→D i∨(H.length≤i∧i < a0.length))∧bB D D' α α' (aQ D α h) (aQ D' α' (cg h H a0 (r.map fun i=>(i,false)))) w w'∧v.Rel P α' (Own B0 D' α' (cg h H a0 (r.map fun i=>(i,false)))) w' D' y:=by
 classical
 unfold su at c1
 simp only [Bool.and_eq_true,List.all_eq_true,List.contains_iff_mem] at c1
 obtain ⟨en,e1⟩:=c1
 have b7:∀ i ∈ r,∃ b,H[i]? =some b∧∀ S ∈ b.ids,S ∈ r:=by
  intro i j
  have:=e1 i j
  split at this
  ·rename_i b I
   exact ⟨b,I,fun S Z=>List.contains_iff_mem.1 (List.all_eq_true.1 this S Z)⟩
  ·cases this
 have e2:∀ i ∈ r,i < H.length:=fun i j=>by obtain ⟨b,I,_⟩:=b7 i j;exact (List.getElem?_eq_some_iff.1 I).1
 let b3:Nat→Prop:=fun i=>D i∧i ∈ r
 let X:Nat→Prop:=fun b=>∃ i k,D i∧i ∉ r∧h i=some k∧k.isLive=true∧(α i).1=b
 let B1:Nat→Prop:=fun b=>B0 b∨X b
 have a3:∀ b,aQ D α h b↔aQ b3 α (H[·]?) b∨X b:=by
  intro b
  constructor
  ·rintro ⟨i,k,G,J,M,U⟩
   by_cases j:i ∈ r
   ·exact .inl ⟨i,k, ⟨G,j⟩,(bD i j).symm.trans J,M,U⟩
   ·exact .inr ⟨i,k,G,j,J,M,U⟩
  ·rintro (⟨i,k, ⟨G,j⟩,J,M,U⟩ | ⟨i,k,G,j,J,M,U⟩)
   ·exact ⟨i,k,G,(bD i j).trans J,M,U⟩
   ·exact ⟨i,k,G,J,M,U⟩
 have ct:Own B1 b3 α (H[·]?)=Own B0 D α h:=by
  funext b
  apply propext
  constructor
  ·rintro ((I | I) | I)
   ·exact .inl I
   ·exact .inr ((a3 b).2 (.inr I))
   ·exact .inr ((a3 b).2 (.inl I))
  ·rintro (I | I)
   ·exact .inl (.inl I)
   ·rcases (a3 b).1 I with I | I
    ·exact .inr I
    ·exact .inl (.inr I)
 have c7:∀ b,X b→¬ aQ b3 α (H[·]?) b:=by
  rintro b ⟨i,k,G,J,M,U,a1⟩ ⟨S,l, ⟨dy,c3⟩,eb,ec,ed⟩
  have:=ab.inj i S k l G dy M ((bD S c3).trans eb) U ec (a1.trans ed.symm)
  subst this
  exact J c3
 have c6:Ok P B1 w0 b3 α (H[·]?) w:=by
  refine ⟨?_,ab.below, ?_, ?_,fun i j=>ab.fresh i j.1, ?_, ?_, ?_⟩
  ·rintro i ⟨j,N⟩
   obtain ⟨b,I,_⟩:=b7 i N
   exact ⟨b,I⟩
  ·rintro b (I | I)
   ·exact ab.cJ b I
   ·have ep:aQ D α h b:=(a3 b).2 (.inr I)
    refine ⟨?_,fun ds ev=>C8 ab ev ep⟩
    obtain ⟨i,k,G,_,_,_,rfl⟩:=I
    exact (ab.fresh i G).2
  ·rintro b (I | I) O
   ·exact ab.sep b I ((a3 b).2 (.inl O))
   ·exact c7 b I O
  ·rintro i S k l ⟨j,N⟩ ⟨Z,b2⟩ G J
   exact ab.inj i S k l j Z ((bD i N).trans G) ((bD S b2).trans J)
  ·rintro i k ⟨j,N⟩ G J
   rw [ct]
   exact ab.cV i k j ((bD i N).trans G) J
  ·rintro i k ⟨j,N⟩ G
   rw [ct]
   obtain ⟨b,I,et⟩:=b7 i N
   have c4:H[i]? =some k:=G
   rw [I] at c4
   cases c4
   exact Q5 (fun i G J=> ⟨J,G⟩) et (ab.cN i _ j ((bD i N).trans G))
 refine (eu B1 w0 b3 α w c2 c6 (by rw [ct];exact CC (fun i G J=> ⟨J,G⟩) en eo)).mono ?_
 rintro e w' ⟨y,D',α',rfl,a2,b6,b1,e3⟩
 have e5:=KM c6 a2 b1
 let b0:Nat→Prop:=fun i=>D' i∨(D i∧i ∉ r)
 let bx:Nat→Nat×Nat:=fun i=>if D i∧i ∉ r then α i else α' i
 have a4:∀ i,D' i→bx i=α' i:=by
  intro i j
  refine if_neg ?_
  rintro ⟨G,J⟩
  rcases b6 i j with M | M
  ·exact J M.2
  ·exact dx i M.1 M.2 G
 have a5:∀ i,D i→i ∉ r→bx i=α i:=fun i G J=>if_pos ⟨G,J⟩
 have a6:∀ i,D' i→cg h H a0 (r.map fun i=>(i,false)) i=a0[i]? :=by
  intro i j
  unfold cg
  split
  ·rfl
  ·rename_i eN
   rcases b6 i j with M | M
   ·exact (bD i M.2).trans (e0 i (e2 i M.2)).symm
   ·exact absurd (.inr M) eN
 have a7:∀ i,D i→i ∉ r→cg h H a0 (r.map fun i=>(i,false)) i=h i:=by
  intro i G J
  unfold cg
  rw [if_neg]
  rintro (M | M)
  ·obtain ⟨S,_,Z⟩:=List.mem_map.1 M
   cases Z
  ·exact dx i M.1 M.2 G
 have b5:∀ b,aQ b0 bx (cg h H a0 (r.map fun i=>(i,false))) b↔aQ D' α' (a0[·]?) b∨X b:=by
  intro b
  constructor
  ·rintro ⟨i,k,G | ⟨G,J⟩,M,U,a1⟩
   ·rw [a6 i G] at M
    rw [a4 i G] at a1
    exact .inl ⟨i,k,G,M,U,a1⟩
   ·rw [a7 i G J] at M
    rw [a5 i G J] at a1
    exact .inr ⟨i,k,G,J,M,U,a1⟩
  ·rintro (⟨i,k,G,J,M,U⟩ | ⟨i,k,G,J,M,U,a1⟩)
   ·exact ⟨i,k, .inl G,(a6 i G).trans J,M,by rw [a4 i G];exact U⟩
   ·exact ⟨i,k, .inr ⟨G,J⟩,(a7 i G J).trans M,U,by rw [a5 i G J];exact a1⟩
 have c0:Own B0 b0 bx (cg h H a0 (r.map fun i=>(i,false)))=Own B1 D' α' (a0[·]?):=by
  funext b
  apply propext
  constructor
  ·rintro (I | I)
   ·exact .inl (.inl I)
   ·rcases (b5 b).1 I with I | I
    ·exact .inr I
    ·exact .inl (.inr I)
  ·rintro ((I | I) | I)
   ·exact .inl I
   ·exact .inr ((b5 b).2 (.inr I))
   ·exact .inr ((b5 b).2 (.inl I))
 have c5:bB D b0 α bx (aQ D α h) (aQ b0 bx (cg h H a0 (r.map fun i=>(i,false)))) w w':=by
  refine ⟨fun i j=> ?_,fun i j=> ?_,fun b o G J=> ?_⟩
  ·by_cases N:i ∈ r
   ·exact .inl (b1.le i ⟨j,N⟩)
   ·exact .inr ⟨j,N⟩
  ·by_cases N:i ∈ r
   ·rw [a4 i (b1.le i ⟨j,N⟩)];exact b1.same i ⟨j,N⟩
   ·exact a5 i j N
  ·have M:=b1.block b o G (fun O=>J ((a3 b).2 (.inl O)))
   exact ⟨fun O=>((b5 b).1 O).elim M.1 (fun e4=>J ((a3 b).2 (.inr e4))),M.2⟩
 have c8:eJ D' b0 α' bx (Own B1 D' α' (a0[·]?)) (Own B0 b0 bx (cg h H a0 (r.map fun i=>(i,false)))) w' w':= ⟨fun i j=> .inl j,a4,fun b cs ty fr G J=> ⟨by rw [c0];exact J,G⟩⟩
 have ey:=c5.keeps B0
 refine ⟨y,b0,bx,rfl, ⟨?_,a2.below,fun b I=>a2.cJ b (.inl I), ?_, ?_, ?_, ?_, ?_⟩, ?_,c5,AV.Rel.mono _ _ c8 e3⟩
 ·rintro i (j | ⟨j,N⟩)
  ·rw [a6 i j];exact a2.lt i j
  ·rw [a7 i j N];exact ab.lt i j
 ·intro b I O
  rcases (b5 b).1 O with O | O
  ·exact a2.sep b (.inl I) O
  ·exact ab.sep b I ((a3 b).2 (.inr O))
 ·rintro i (j | ⟨j,N⟩)
  ·rw [a4 i j];exact a2.fresh i j
  ·rw [a5 i j N]
   have:=ab.fresh i j
   omega
 ·rintro i S k l (j | ⟨j,N⟩) (Z | ⟨Z,b2⟩) G J M U a1
  ·rw [a6 i j] at G
   rw [a6 S Z] at J
   rw [a4 i j,a4 S Z] at a1
   exact a2.inj i S k l j Z G J M U a1
  ·rw [a6 i j] at G
   rw [a7 S Z b2] at J
   rw [a4 i j,a5 S Z b2] at a1
   exact absurd ⟨i,k,j,G,M,rfl⟩ (a2.sep (α' i).1 (.inr ⟨S,l,Z,b2,J,U,a1.symm⟩))
  ·rw [a7 i j N] at G
   rw [a6 S Z] at J
   rw [a5 i j N,a4 S Z] at a1
   exact absurd ⟨S,l,Z,J,U,rfl⟩ (a2.sep (α' S).1 (.inr ⟨i,k,j,N,G,M,a1⟩))
  ·rw [a7 i j N] at G
   rw [a7 S Z b2] at J
   rw [a5 i j N,a5 S Z b2] at a1
   exact ab.inj i S k l j Z G J M U a1
 ·rintro i k (j | ⟨j,N⟩) G J O
  ·rw [a6 i j] at G
   rw [a4 i j,c0] at O
   exact a2.cV i k j G J O
  ·rw [a7 i j N] at G
   rw [a5 i j N,c0,] at O
   have b8:=ab.cV i k j G J
   rcases O with (O | O) | O
   ·exact b8 (.inl O)
   ·exact b8 (.inr ((a3 _).2 (.inr O)))
   ·have ez:=(ab.fresh i j).2
    have eh:=b1.block _ _ (Array.getElem?_eq_getElem ez) (fun O=>b8 (.inr ((a3 _).2 (.inl O))))
    exact eh.1 O
 ·rintro i k (j | ⟨j,N⟩) G
  ·rw [a6 i j] at G
   rw [a4 i j]
   exact cM.mono c8 (fun o ch _=>ch) (a2.cN i k j G)
  ·rw [a7 i j N] at G
   rw [a5 i j N]
   refine cM.mono ey (fun o ch b4=> ?_) (ab.cN i k j G)
   refine (b1.block _ o ch (fun O=> ?_)).2
   rcases b4 with b4 | b4
   ·exact c7 _ ⟨i,k,j,N,G,b4,rfl⟩ O
   ·exact ab.cV i k j G b4 (.inr ((a3 _).2 (.inl O)))
 ·rintro i (j | ⟨j,_⟩)
  ·exact (b6 i j).elim (fun h=> .inl h.1) .inr
  ·exact .inl j
end
end Go.V
namespace Go.V
open Go Go.RowKit
section
variable {R : Type} {P : Program} {ro : Option Nat} {T : List AV} {o : Oper} {H : Hp} {k : Kn R} {r : R}
theorem NJ {c:Call} {f:Operand} (ab:o.op= .call c) (J:c.callee= .value f) {a:Act} {w:World} {g:FuncId} {M N:Array Value} (U:a.eval f= .func (.func g) M N) (j:fH P g=true):(execOp a.eval o).run P w= .ok (.enter g (M ++ c.args.map a.eval ++ N)) w:=by
 obtain ⟨a1,a0,ts⟩:=c
 simp only at J
 subst J
 unfold fH at j
 cases I:P.funcs[g]? with
 | none=>rw [I] at j;cases j
 | some G=>
  rw [I] at j
  simp only [Bool.and_eq_true,Bool.not_eq_true',beq_eq_false_iff_ne] at j
  have O:G.body.isNone=false:=by
   cases S:G.body with
   | none=>rw [S] at j;simp at j
   | some c=>rfl
  have Z : (G.name == "runtime.NumGoroutine") = false := by simpa using j.2
  unfold execOp
  rw [ab]
  simp only [resolve,U,Deferred.ofValue,Sem.run_bind,Sem.run_pure,Result.andThen,invoke,callFunc,run_program,I,Z,O,Bool.false_eq_true,if_false]
theorem JG {a:Act} {w:World} {g:FuncId} {zs:Array Value} {K:Act→World→Prop} {Q:Exit→Act→World→Prop} {j:Ending→World→Prop} (O:∀ c,o.op≠ .defer c) (S:(execOp a.eval o).run P w= .ok (.enter g zs) w) (I:CallsIn Fence.wide 0 P g zs w j) (G:∀ e w',j e w'→∃ y,e= .returned y∧K (a.put o.dst y) w'):o.wpIn (W ro) 0 P a w K Q:=by
 refine ⟨fun _ _=>trivial, ?_⟩
 rw [Oper.semAt_eq _ _ _ O,S,Oper.uponIn_enter]
 refine ⟨(fun h=>by cases h), ?_⟩
 have J:CallsIn (W ro) (0 - 1) P g zs w j:=I
 refine J.mono ?_
 intro e w' M
 obtain ⟨y,rfl,N⟩:=G e w' M
 exact N
theorem D8 {D:Nat→Prop} {α:Nat→Nat×Nat} {B:Nat→Prop} {w:World} {a:Act} (j:Array Operand) (h:∀ x ∈ j,(aA T x).Rel P α B w D (a.eval x)):ao P α B w (j.toList.map (aA T)) D (j.map a.eval).toList:=by
 rw [Array.toList_map]
 exact yF _ (fun x G=>h x (Array.mem_toList_iff.1 G))
theorem BG (D:Nat→Prop) {α:Nat→Nat×Nat} {B:Nat→Prop} {w:World} :∀ (l:List Value),ao P α B w (l.map gy) D l
 | []=>rfl
 | v :: l=> ⟨v,l,rfl,toAV1_rel v,BG D l⟩
theorem Co {G:AV} {g:FuncId} {j cap:List AV} (N:G= .clo (.func g) j cap∨∃ a b:Array Value,G= .val (.func (.func g) a b)∧j=a.toList.map gy∧cap=b.toList.map gy) {D:Nat→Prop} {α:Nat→Nat×Nat} {B:Nat→Prop} {w:World} {u:Value} (I:G.Rel P α B w D u):
  ∃ J M:Array Value,u= .func (.func g) J M∧ao P α B w j D J.toList∧ao P α B w cap D M.toList:=by
 rcases N with rfl | ⟨a,b,rfl,rfl,rfl⟩
 ·exact I
 ·exact ⟨a,b,I,BG D _,BG D _⟩
theorem Va {c:Call} {f:Operand} (j:o.op= .call c) (M:c.callee= .value f) {g:FuncId} {I cap:List AV} (a3:aA T f= .clo (.func g) I cap∨∃ a b:Array Value,aA T f= .val (.func (.func g) a b)∧I=a.toList.map gy∧cap=b.toList.map gy) (a5:fH P g=true) {v:AV} {G:Hp}
  (a1:m8 P g (I ++ c.args.toList.map (aA T) ++ cap) H v G) (B0:Nat→Prop) (w0:World):og P B0 w0 ro T o (H[·]?) (H[·]?) H.length G.length v (G[·]?) true:=by
 intro ro D α a w K Q ab b0 J Z
 have a6:∀ c,o.op≠ .defer c:=fun c h=>by rw [j] at h;cases h
 have a4:f ∈ o.op.operands:=by rw [j];simp [Op.operands,Call.operands,M]
 obtain ⟨b1,b2,a2,a7,bx⟩:=Co a3 (J f a4)
 have a0:=D8 (P:=P) (T:=T) (D:=D) (α:=α) (B:=Own B0 D α (H[·]?)) (w:=w) (a:=a) c.args (fun x bD=>J x (by rw [j];simp only [Op.operands,Call.operands,Array.mem_append];exact .inr bD))
 refine JG a6 (NJ j M a2 a5) (a1 B0 w0 D α w _ ab (by rw [Array.toList_append,Array.toList_append];exact ao.append (ao.append a7 a0) bx)) ?_
 rintro e w' ⟨y,D',α',rfl,N,O,S,U⟩
 exact ⟨y,rfl,Z D' α' w' y N O S U⟩
theorem Vb {c:Call} {f:Operand} (I:o.op= .call c) (J:c.callee= .value f) {i:Nat} (bx:aA T f= .yld i) {v:AV} {j:Hp} (a6:Jf P i (c.args.toList.map (aA T)) H v j) (B0:Nat→Prop) (w0:World):og P B0 w0 ro T o (H[·]?) (H[·]?) H.length j.length v (j[·]?) true:=by
 intro ro D α a w K Q a2 b7 S a1
 have b1:∀ c,o.op≠ .defer c:=fun c h=>by rw [I] at h;cases h
 have bD:f ∈ o.op.operands:=by rw [I];simp [Op.operands,Call.operands,J]
 have G:=S f bD
 rw [bx] at G
 obtain ⟨b0,a7⟩:=G
 have a5:=D8 (P:=P) (T:=T) (D:=D) (α:=α) (B:=Own B0 D α (H[·]?)) (w:=w) (a:=a) c.args (fun x b3=>S x (by rw [I];simp only [Op.operands,Call.operands,Array.mem_append];exact .inr b3))
 obtain ⟨O,U,M,N,b4,a3⟩:=a6 B0 w0 D α w (c.args.map a.eval) a2 b0 a5
 have b2:(execOp a.eval o).run P w= .ok (.round (α i).1 O U M N) w:=by
  obtain ⟨b6,b5,ts⟩:=c
  simp only at J
  subst J
  unfold execOp
  rw [I]
  simp only [resolve,a7,Deferred.ofValue,Sem.run_bind,Sem.run_pure,Result.andThen,invoke,Array.empty_append]
  simpa using b4
 refine ⟨fun _ _=>trivial, ?_⟩
 rw [Oper.semAt_eq _ _ _ b1,b2,Oper.uponIn_round]
 refine ⟨(fun h=>by cases h), ?_⟩
 have a4:RoundIn (W ro) (0 - 1) P (α i).1 O U M N w (rU P B0 w0 D α (H[·]?) w H.length j.length v (j[·]?)):=a3
 refine a4.mono ?_
 rintro e w' ⟨y,D',α',rfl,G,Z,ab,a0⟩
 exact a1 D' α' w' y G Z ab a0
theorem bf.all {M:Tch} {lo:Nat} (h:bf P ro T o H M lo k r):bf P ro T o H .all lo k r:=by
 obtain ⟨v,G,I,J,j⟩:=h
 exact ⟨v,G,I,J,fun B0 w0=> ⟨(j B0 w0).1,(j B0 w0).sY⟩⟩
theorem KR {v:AV} {J:Hp} (b7:H.length≤J.length) (b1:∀ m,m < H.length→J[m]? =H[m]?) (b6:∀ B0 w0,og P B0 w0 ro T o (H[·]?) (H[·]?) H.length J.length v (J[·]?) true) (B0:Nat→Prop) (w0:World):me P B0 w0 ro T o H v J (.some true []):=by
 refine ⟨b7,fun m ch _=>b1 m ch,fun h c1 ro D α a w K Q N a6 b5 b3=> ?_⟩
 have b8:∀ i,D i→i < H.length:=fun i j=>by
  rcases Nat.lt_or_ge i H.length with h | h
  ·exact h
  ·exact absurd j (a6.1 i h (.inr rfl))
 have O:∀ i,D i→h i=H[i]? :=fun i j=>a6.2 rfl i j
 have bD:∀ b,aQ D α h b↔aQ D α (H[·]?) b:=by
  intro b
  constructor
  ·rintro ⟨i,k,G,I,M⟩;exact ⟨i,k,G,(O i G).symm.trans I,M⟩
  ·rintro ⟨i,k,G,I,M⟩;exact ⟨i,k,G,(O i G).trans I,M⟩
 have a7:aQ D α h=aQ D α (H[·]?):=funext fun b=>propext (bD b)
 have a3:Own B0 D α h=Own B0 D α (H[·]?):=by funext b;unfold Own;rw [a7]
 have b4:Ok P B0 w0 D α (H[·]?) w:=by
  refine ⟨fun i j=> ?_,N.below,N.cJ,fun b a5 U=>N.sep b a5 ((bD b).2 U),N.fresh,fun i a0 k l j ab G I=> ?_,fun i k j G I U=> ?_,fun i k j G=> ?_⟩
  ·have:=N.lt i j;rwa [O i j] at this
  ·exact N.inj i a0 k l j ab ((O i j).trans G) ((O a0 ab).trans I)
  ·exact N.cV i k j ((O i j).trans G) I (by rw [a3];exact U)
  ·rw [← a3];exact N.cN i k j ((O i j).trans G)
 refine b6 B0 w0 ro D α a w K Q b4 ⟨fun i j _=>a6.1 i j (.inr rfl),fun _ _ _=>rfl⟩ (fun x c0=>by rw [← a3];exact b5 x c0) (fun D' α' w' x G I M b2=> ?_)
 have S:∀ i,D' i→cg h H J [] i=J[i]? :=by
  intro i j
  unfold cg
  split
  ·rfl
  ·rename_i ct
   rcases I i j with a1 | a1
   ·rw [O i a1];exact (b1 i (b8 i a1)).symm
   ·exact absurd (.inr a1) ct
 have b0:∀ b,aQ D' α' (cg h H J []) b↔aQ D' α' (J[·]?) b:=by
  intro b
  constructor
  ·rintro ⟨i,k,G,I,M⟩;exact ⟨i,k,G,(S i G).symm.trans I,M⟩
  ·rintro ⟨i,k,G,I,M⟩;exact ⟨i,k,G,(S i G).trans I,M⟩
 have bx:aQ D' α' (cg h H J [])=aQ D' α' (J[·]?):=funext fun b=>propext (b0 b)
 have a4:Own B0 D' α' (cg h H J [])=Own B0 D' α' (J[·]?):=by funext b;unfold Own;rw [bx]
 refine b3 D' α' w' x ⟨fun i j=> ?_,G.below,G.cJ,fun b a5 U=>G.sep b a5 ((b0 b).1 U),G.fresh,fun i a0 k l j ab Z a2=> ?_,fun i k j Z a2 U=> ?_,fun i k j Z=> ?_⟩ I (by rw [a7,bx];exact M) (by rw [a4];exact b2)
 ·have:=G.lt i j;rwa [S i j]
 ·exact G.inj i a0 k l j ab ((S i j).symm.trans Z) ((S a0 ab).symm.trans a2)
 ·exact G.cV i k j ((S i j).symm.trans Z) a2 (by rw [← a4];exact U)
 ·rw [a4];exact G.cN i k j ((S i j).symm.trans Z)
theorem acB {x:Cx R} (a1:eT x) (b4:x.P=P) {c:Call} {f:Operand} (S:o.op= .call c) (U:c.callee= .value f) (h:E1 x (aA T f) (c.args.toList.map (aA T)) H k=some r):
  bf P ro T o H .all x.lo k r∧(x.lo=H.length→bf P ro T o H (fz x.E T H c) x.lo k r):=by
 subst b4
 have a6:fz x.E T H c=zA H (funcOf (aA T f)) (c.args.toList.map (aA T)):=by
  unfold fz
  rw [U]
 have a2:∀ {g:FuncId} {G cap:List AV},funcOf (aA T f)=some (g,G,cap)→(aA T f= .clo (.func g) G cap∨∃ a b:Array Value,aA T f= .val (.func (.func g) a b)∧G=a.toList.map gy∧cap=b.toList.map gy)→sn x g (G ++ c.args.toList.map (aA T) ++ cap) H k=some r→
   bf x.P ro T o H .all x.lo k r∧(x.lo=H.length→bf x.P ro T o H (fz x.E T H c) x.lo k r):=by
  intro g G cap ct a4 b7
  obtain ⟨a5,v,N,I,J,j,a0,dx⟩:=Sd a1 b7
  have ab:=fun B0 w0=>Va (ro:=ro) S U a4 a5 a0 B0 w0
  refine ⟨⟨v,N,I,j,fun B0 w0=> ⟨J,ab B0 w0⟩⟩,fun c2=> ?_⟩
  rw [a6,ct]
  unfold zA GM
  simp only
  cases Z:su (reach H 60 (e8 (G ++ c.args.toList.map (aA T) ++ cap)) []) (G ++ c.args.toList.map (aA T) ++ cap) H with
  | false=>exact ⟨v,N,I,j,fun B0 w0=>KR J (fun m O=>j (by omega) m (by omega)) ab B0 w0⟩
  | true=>
   simp only [cond]
   generalize reach H 60 (e8 (G ++ c.args.toList.map (aA T) ++ cap)) []=c8 at Z
   refine ⟨v,N,I,j,fun B0 w0=> ⟨J,fun m O _=>j (by omega) m (by omega),fun h c0 ro D α a w K Q b3 c4 a3 b2=> ?_⟩⟩
   have c3:∀ c,o.op≠ .defer c:=fun c h=>by rw [S] at h;cases h
   have ch:f ∈ o.op.operands:=by rw [S];simp [Op.operands,Call.operands,U]
   obtain ⟨dy,eb,b8,c5,c6⟩:=Co a4 (a3 f ch)
   have b5:=D8 (P:=x.P) (T:=T) (D:=D) (α:=α) (B:=Own B0 D α h) (w:=w) (a:=a) c.args (fun x a1=>a3 x (by rw [S];simp only [Op.operands,Call.operands,Array.mem_append];exact .inr a1))
   have c7:∀ i ∈ c8,i < H.length:=by
    intro i c1
    unfold su at Z
    rw [Bool.and_eq_true] at Z
    have:=List.all_eq_true.1 Z.2 i c1
    split at this
    ·rename_i b b6;exact (List.getElem?_eq_some_iff.1 b6).1
    ·cases this
   refine JG c3 (NJ S U b8 a5) (Se a0 (fun m O=>j (by omega) m (by omega)) Z B0 w0 D α h w _ (fun m O=>c0 m ⟨false,List.mem_map.2 ⟨m,O,rfl⟩⟩ (c7 m O)) b3 (fun i I J=>c4.1 i I (.inl J)) (by rw [Array.toList_append,Array.toList_append];exact ao.append (ao.append c5 b5) c6)) ?_
   rintro e w' ⟨y,D',α',rfl,a7,bx,bD,b0⟩
   exact ⟨y,rfl,b2 D' α' w' y a7 bx bD b0⟩
 unfold E1 at h
 split at h
 ·rename_i v M
  split at h
  ·rename_i b1 a b
   split at h
   ·rename_i g
    exact a2 (by rw [M];rfl) (.inr ⟨a,b,M,rfl,rfl⟩) h
   ·cases h
  ·cases h
 ·rename_i b1 a b M
  split at h
  ·rename_i g
   exact a2 (by rw [M];rfl) (.inl M) h
  ·cases h
 ·rename_i i M
  obtain ⟨v,N,I,J,j,a0⟩:=a1.yf x.lo i _ H k r h
  have ab:=fun B0 w0=>Vb (ro:=ro) S U M a0 B0 w0
  refine ⟨⟨v,N,I,j,fun B0 w0=> ⟨J,ab B0 w0⟩⟩,fun c2=> ?_⟩
  rw [a6,M]
  exact ⟨v,N,I,j,fun B0 w0=>KR J (fun m O=>j (by omega) m (by omega)) ab B0 w0⟩
 ·cases h
theorem ab9 {x:Cx R} (a7:eT x) (N:x.P=P) {c:Call} (G:o.op= .call c) (h:EP x T o c H k=some r):
  bf P ro T o H .all x.lo k r∧(x.lo=H.length∨jG o.op=false→bf P ro T o H (fz x.E T H c) x.lo k r):=by
 have two:∀ {S:Tch},bf P ro T o H S x.lo k r→fz x.E T H c=S→bf P ro T o H .all x.lo k r∧(x.lo=H.length∨jG o.op=false→bf P ro T o H (fz x.E T H c) x.lo k r):=by
  intro S ab M
  rw [M]
  exact ⟨ab.all,fun _=>ab⟩
 have O:∀ c,o.op≠ .defer c:=fun c h=>by rw [G] at h;cases h
 unfold EP at h
 split at h
 ·rename_i f j
  unfold N5 at h
  split at h
  ·rename_i v U
   rw [N] at U
   have M:∃ rd l,fz x.E T H c= .some rd l∧∀ m,(m,true) ∉ l:=by
    unfold fz
    rw [j]
    simp only
    unfold zA
    split
    ·unfold GM
     rw [Bool.cond_eq_ite]
     split
     ·exact ⟨_,_,rfl,fun m I=>by obtain ⟨b0,_,a4⟩:=List.mem_map.1 I;cases a4⟩
     ·exact ⟨_,_,rfl,fun m I=>by simp at I⟩
    ·exact ⟨_,_,rfl,fun m I=>by simp at I⟩
   obtain ⟨rd,l,M,a5⟩:=M
   exact two (acg G j U h rd a5) M
  obtain ⟨a0,a1⟩:=acB (ro:=ro) a7 N G j h
  refine ⟨a0,fun a6=>a1 (a6.resolve_right (fun Z=> ?_))⟩
  rw [G] at Z
  obtain ⟨bD,bx,ts⟩:=c
  simp only at j
  subst j
  simp [jG] at Z
 ·rename_i b j
  have J:b≠ .append→b≠ .unsafeString→fz x.E T H c= .some false []:=by
   intro a2 a3
   unfold fz
   rw [j]
   split
   ·rename_i e;cases e;exact absurd rfl a2
   ·rename_i e;cases e;exact absurd rfl a3
   ·rfl
   ·rename_i e;cases e
   ·rename_i e _;exact absurd rfl (e b)
  unfold N4 at h
  rw [N] at h
  split at h
  ·exact two (aco G j h) (J (by simp) (by simp))
  ·exact two (step_append (E:=x.E) G j h) rfl
  ·exact two (ace G j h) (J (by simp) (by simp))
  ·exact two (acA G j h) (by unfold fz;rw [j];cases c.args.toList <;> rfl)
  ·exact two (pE O h) (J (by simp) (by simp))
  ·exact two (pE O h) (J (by simp) (by simp))
  ·exact two (pE O h) (J (by simp) (by simp))
  ·cases h
 ·cases h
theorem acy {x:Cx R} (U:eT x) (I:x.P=P) (h:EY x T o H k=some r):
  bf P ro T o H .all x.lo k r∧(x.lo=H.length∨jG o.op=false→bf P ro T o H (cF x.E T H o) x.lo k r):=by
 have two:∀ {G:Tch},bf P ro T o H G x.lo k r→cF x.E T H o=G→bf P ro T o H .all x.lo k r∧(x.lo=H.length∨jG o.op=false→bf P ro T o H (cF x.E T H o) x.lo k r):=by
  intro G J S
  rw [S]
  exact ⟨J.all,fun _=>J⟩
 unfold EY at h
 rw [I] at h
 split at h
 ·rename_i j;exact two (Ow (.inl j) h) (by unfold cF;rw [j])
 ·rename_i j;exact two (Ow (.inr j) h) (by unfold cF;rw [j])
 ·rename_i j;exact two (acu j h) (by unfold cF;rw [j])
 ·rename_i j;exact two (ab2 j h) (by unfold cF;rw [j])
 ·rename_i j;exact two (ab6 j h) (by unfold cF;rw [j])
 ·rename_i j;exact two (ab7 j h) (by unfold cF;rw [j])
 ·rename_i j;exact two (ab8 j h) (by unfold cF;rw [j])
 ·rename_i j;exact two (acp j h) (by unfold cF;rw [j])
 ·rename_i j;exact two (acz j h) (by unfold cF;rw [j])
 ·rename_i j;exact two (aci j h) (by unfold cF;rw [j])
 ·rename_i j;exact two (acj j h) (by unfold cF;rw [j])
 ·rename_i j;exact two (acn j h) (by unfold cF;rw [j])
 ·rename_i j;exact two (acm j h) (by unfold cF;rw [j])
 ·rename_i j;exact two (acx j h) (by unfold cF;rw [j])
 ·rename_i j;exact two (acb j h) (by unfold cF;rw [j])
 ·rename_i j;exact two (acq j h) (by unfold cF;rw [j])
 ·rename_i j;exact two (acr j h) (by unfold cF;rw [j])
 ·rename_i j;exact two (acs j h) (by unfold cF;rw [j])
 ·rename_i j;exact two (ab5 j h) (by unfold cF;rw [j])
 ·rename_i j;exact two (ach j h) (by unfold cF;rw [j])
 ·rename_i c j
  obtain ⟨M,N⟩:=ab9 (ro:=ro) U I j h
  exact ⟨M,fun O=>by have:=N O;unfold cF;rw [j];exact this⟩
 ·rename_i j;exact two (pE (fun c h=>by rw [j] at h;cases h) h) (by unfold cF;rw [j])
 ·cases h
end
end Go.V
namespace Go.V
open Go Go.RowKit
section
variable {ops : Array Oper}
structure Order (ops:Array Oper) (m:Nat) (c:Nat→List Nat):Prop where
 le:m≤ops.size
 tail:∀ d,d < ops.size→m≤d→∀ i,i < d→i ∈ c d
 tj:∀ d,d < ops.size→∃ o,ops[d]? =some o∧(∀ e ∈ gz o,e < d)∧∀ i ∈ c d,i ∈ gz o∨∃ e ∈ gz o,i ∈ c e
 head:∀ i,i < m→∃ o,ops[i]? =some o∧∀ j,j < m→∃ o',ops[j]? =some o'∧(i=j∨o.dst=none∨o.dst≠o'.dst)∧∀ t,o'.dst=some t→t ∈ o.looksAt ops→j ∈ c i∨i ∈ c j
theorem Zb (h:BN ops=true):Order ops (ca ops) (fun d=>(ml ops.toList).getD d []):=by
 unfold BN at h
 simp only [Bool.and_eq_true,beq_iff_eq,decide_eq_true_eq] at h
 obtain ⟨⟨⟨⟨a0,I⟩,J⟩,U⟩,M⟩:=h
 simp only [Array.length_toList] at a0 I J U M
 have a3:Cy (ml ops.toList) ops.size=ca ops:=rfl
 rw [a3] at I J M
 generalize ml ops.toList=c at*
 generalize ca ops=m at*
 have O:∀ i:Nat,ops.toList[i]? =ops[i]? :=fun i=>Array.getElem?_toList
 refine ⟨J, ?_, ?_, ?_⟩
 ·intro d N a6 i S
  unfold FP at I
  have:=List.all_eq_true.1 I d (List.mem_range.2 N)
  rw [Bool.or_eq_true,decide_eq_true_eq] at this
  rcases this with this | this
  ·omega
  ·exact List.contains_iff_mem.1 (List.all_eq_true.1 this i (List.mem_range.2 S))
 ·intro d N
  have:=List.all_eq_true.1 U d (List.mem_range.2 N)
  rw [O] at this
  cases G:ops[d]? with
  | none=>rw [G] at this;cases this
  | some o=>
   rw [G] at this
   simp only [Bool.and_eq_true,List.all_eq_true,decide_eq_true_eq,Bool.or_eq_true,List.any_eq_true,List.contains_iff_mem] at this
   exact ⟨o,rfl,this.1,this.2⟩
 ·intro i S
  have:=List.all_eq_true.1 M i (List.mem_range.2 S)
  rw [O] at this
  cases G:ops[i]? with
  | none=>rw [G] at this;cases this
  | some o=>
   rw [G] at this
   refine ⟨o,rfl,fun ab a1=> ?_⟩
   have:=List.all_eq_true.1 this ab (List.mem_range.2 a1)
   rw [O] at this
   cases Z:ops[ab]? with
   | none=>rw [Z] at this;cases this
   | some a5=>
    rw [Z] at this
    simp only [Bool.and_eq_true,Bool.or_eq_true,beq_iff_eq,Bool.not_eq_true',beq_eq_false_iff_ne,Option.isNone_iff_eq_none] at this
    refine ⟨a5,rfl, ?_, ?_⟩
    ·rcases this.1 with (h | h) | h
     ·exact .inl h
     ·exact .inr (.inl h)
     ·exact .inr (.inr h)
    ·intro t a4 a2
     have j:=this.2
     rw [a4] at j
     simp only [Bool.or_eq_true,Bool.not_eq_true',List.contains_iff_mem] at j
     rcases j with j | j
     ·rw [← Bool.not_eq_true,List.contains_iff_mem] at j;exact absurd a2 j
     ·exact j
variable {m : Nat} {c : Nat → List Nat}
theorem Order.lt (h:Order ops m c):∀ d,d < ops.size→∀ i ∈ c d,i < d:=by
 intro d
 induction d using Nat.strongRecOn with
 | _ d O=>
  intro M i N
  obtain ⟨o,S,G,I⟩:=h.tj d M
  rcases I i N with j | ⟨e,j,J⟩
  ·exact G i j
  ·have:=G e j
   have:=O e this (by omega) i J
   omega
def r5 (ops:Array Oper) (b:Nat→Bool):Prop:=∀ d o,ops[d]? =some o→b d=true→∀ e ∈ gz o,b e=true
theorem Order.up (h:Order ops m c) {b:Nat→Bool} (O:r5 ops b):∀ d,d < ops.size→(∀ o,ops[d]? =some o→∀ e ∈ gz o,b e=true)→∀ i ∈ c d,b i=true:=by
 intro d
 induction d using Nat.strongRecOn with
 | _ d a0=>
  intro S G i U
  obtain ⟨o,I,J,M⟩:=h.tj d S
  rcases M i U with j | ⟨e,j,N⟩
  ·exact G o I i j
  ·have Z:=J e j
   exact a0 e Z (by omega) (fun a1 ab=>O e a1 ab (G o I e j)) i N
def lb (listed:Array Bool) (j:Nat):Bool:=listed.getD j false
theorem u7 {listed:Array Bool} (U:listed.size=ops.size) (i:Nat):i ∈ Region.ready .any ops listed↔∃ o,ops[i]? =some o∧lb listed i=false∧∀ e ∈ gz o,lb listed e=true:=by
 unfold Region.ready
 rw [List.mem_filter,List.mem_range]
 constructor
 ·rintro ⟨O,h⟩
  rw [Bool.and_eq_true] at h
  have J:ops[i]? =some ops[i]:=Array.getElem?_eq_getElem O
  refine ⟨ops[i],J, ?_, ?_⟩
  ·have j:=h.1
   unfold lb
   rw [Array.getD_eq_getD_getElem?,Array.getElem?_eq_getElem (by omega)] at j ⊢
   simpa using j
  ·have I:=h.2
   rw [J] at I
   simp only [Option.map_some,Option.getD_some,Array.all_eq_true_iff_forall_mem,Bool.or_eq_true,Bool.not_eq_true'] at I
   intro e N
   unfold gz at N
   rw [List.mem_map] at N
   obtain ⟨x,G,rfl⟩:=N
   rw [List.mem_filter] at G
   rcases I x (Array.mem_toList_iff.1 G.1) with M | M
   ·rw [M] at G;cases G.2
   ·exact M
 ·rintro ⟨o,J,j,I⟩
  have O:i < ops.size:=(Array.getElem?_eq_some_iff.1 J).1
  refine ⟨O, ?_⟩
  rw [Bool.and_eq_true,J]
  constructor
  ·unfold lb at j
   rw [Array.getD_eq_getD_getElem?,Array.getElem?_eq_getElem (by omega)] at j ⊢
   simpa using j
  ·simp only [Option.map_some,Option.getD_some,Array.all_eq_true_iff_forall_mem,Bool.or_eq_true,Bool.not_eq_true']
   intro x G
   cases S:Region.binds .any x with
   | false=>exact .inl rfl
   | true=>
    refine .inr (I x.on ?_)
    unfold gz
    exact List.mem_map.2 ⟨x,List.mem_filter.2 ⟨Array.mem_toList_iff.2 G,S⟩,rfl⟩
theorem CL {listed:Array Bool} {i:Nat} (G:i < listed.size) (j:Nat):lb (listed.setIfInBounds i true) j=if j=i then true else lb listed j:=by
 unfold lb
 rw [Array.getD_eq_getD_getElem?,Array.getD_eq_getD_getElem?]
 by_cases h:j=i
 ·subst h
  rw [if_pos rfl,Array.getElem?_setIfInBounds_self_of_lt G]
  rfl
 ·rw [if_neg h,Array.getElem?_setIfInBounds_ne (Ne.symm h)]
theorem Sv {listed:Array Bool} (U:listed.size=ops.size) (N:r5 ops (lb listed)) {i:Nat} {o:Oper} (M:ops[i]? =some o) (O:∀ e ∈ gz o,lb listed e=true):r5 ops (lb (listed.setIfInBounds i true)):=by
 have S:i < listed.size:=by rw [U];exact (Array.getElem?_eq_some_iff.1 M).1
 intro d Z G j e J
 rw [CL S] at j ⊢
 by_cases h:e=i
 ·rw [if_pos h]
 ·rw [if_neg h]
  by_cases I:d=i
  ·subst I
   rw [M] at G
   cases G
   exact O e J
  ·rw [if_neg I] at j
   exact N d Z G j e J
def left (n:Nat) (b:Nat→Bool):Nat:=((List.range n).filter fun j=> !b j).length
theorem Xo {n i:Nat} {b G:Nat→Bool} (Z:i < n) (N:b i=false) (I:∀ j,G j=if j=i then true else b j):left n b=left n G+1:=by
 unfold left
 induction n with
 | zero=>omega
 | succ n U=>
  rw [List.range_succ,List.filter_append,List.filter_append,List.length_append,List.length_append]
  by_cases O:i=n
  ·subst O
   have J:(List.range i).filter (fun j=> !b j)=(List.range i).filter (fun j=> !G j):=by
    apply List.filter_congr
    intro j S
    rw [I j,if_neg (by have:=List.mem_range.1 S;omega)]
   rw [J]
   simp [N,I i]
  ·have:=U (by omega)
   have M:G n=b n:=by rw [I n,if_neg (by omega)]
   simp only [List.filter_cons,List.filter_nil,M]
   omega
end
noncomputable def g9 (T:List AV) (ops:Array Oper) (j:Nat):Option Bool:=
 match (ops[j]?).bind (·.dst) with
 | some d=>match al T d with
  | .val (.bool b)=>some b
  | _=>none
 | none=>none
section
variable {R : Type} {P : Program} {B0 : Nat → Prop} {w0 : World} {F : Fr} {ro : Option Nat} {ops : Array Oper}
theorem Lc {T:List AV} {d:Nat} (h:T[d]? =none):al T d= .any:=by rw [qE,h];rfl
theorem xY {T:List AV} {d:Nat} {v:AV} (h:T[d]? =some v):al T d=v:=by rw [qE,h];rfl
theorem fix_eq {T:List AV} {d:Nat} {b:Bool} (h:al T d= .val (.bool b)):nA T d b=T:=by
 unfold nA
 rw [CV]
 rw [qE] at h
 apply List.ext_getElem?
 intro i
 by_cases G:i=d
 ·subst G
  cases j:T[i]? with
  | none=>rw [j] at h;cases h
  | some v=>
   rw [j] at h
   rw [List.getElem?_set_self (List.getElem?_eq_some_iff.1 j).1]
   exact congrArg some h.symm
 ·rw [List.getElem?_set_ne (Ne.symm G)]
def wx (P:Program) (α:Nat→Nat×Nat) (B:Nat→Prop) (w:World) (D:Nat→Prop) (T:List AV) (j:Array Value) (d:Nat):Prop:=(T[d]? =none∧j[d]? =none)∨∃ v x,T[d]? =some v∧j[d]? =some x∧v.Rel P α B w D x
theorem Pz {α:Nat→Nat×Nat} {B:Nat→Prop} {w:World} {D:Nat→Prop} {T:List AV} {N:Array Value} {j:Nat}
  (h:∀ d,(ops[j]?).bind (·.dst)=some d→wx P α B w D T N d) (S:∀ d,(ops[j]?).bind (·.dst)=some d→∃ v,al T d= .val v):yielded ops N j=g9 T ops j:=by
 unfold yielded g9
 cases M:(ops[j]?).bind (·.dst) with
 | none=>rfl
 | some d=>
  obtain ⟨v,I⟩:=S d M
  rcases h d M with ⟨G,J⟩ | ⟨u,x,G,J,O⟩
  ·rw [Lc G] at I;cases I
  ·rw [xY G] at I
   subst I
   rw [show x=v from O] at J
   simp only [Option.bind_some,J,xY G]
   cases v <;> rfl
theorem ao.slot {α:Nat→Nat×Nat} {B:Nat→Prop} {w:World} {D:Nat→Prop} {T:List AV} {I:Array Value} (h:ao P α B w T D I.toList) (d:Nat):wx P α B w D T I d:=by
 cases j:T[d]? with
 | none=>
  left
  have:=ao.len h
  rw [Array.length_toList] at this
  exact ⟨j,Array.getElem?_eq_none (by rw [this];exact List.getElem?_eq_none_iff.1 j)⟩
 | some v=>
  obtain ⟨x,G,J⟩:=ao.get h j
  rw [Array.getElem?_toList] at G
  exact .inr ⟨v,x,j,G,J⟩
theorem tq {α:Nat→Nat×Nat} {B:Nat→Prop} {w:World} {D:Nat→Prop} {T:List AV} {a:Act} (x:Operand) (h:∀ d,x= .tmp d→wx P α B w D T a.tmps d):(aA T x).Rel P α B w D (a.eval x):=by
 cases x with
 | tmp d=>
  show (al T d).Rel P α B w D (a.tmps.getD d undef)
  rcases h d rfl with ⟨j,G⟩ | ⟨v,y,j,G,I⟩
  ·rw [Lc j];trivial
  ·rw [xY j,Array.getD_eq_getD_getElem?,G];exact I
 | const v=>exact toAV1_rel v
 | global g=>rfl
 | func f=>rfl
theorem yz (j:Option Tmp) (v:AV) (T:List AV):jY j v T=(match j with | some d=>T.set d v | none=>T):=by
 cases j with
 | none=>rfl
 | some d=>exact CV T d v
theorem NU {D D':Nat→Prop} {α α':Nat→Nat×Nat} {h h':Hf} {T:List AV} {a:Act} {w w':World} (a0:w0.heap.size≤F.w.heap.size) (N:Marks F.w.heap.size w a.defers) (O:Ok P B0 w0 D α h w) (S:ao P α (Own B0 D α h) w T D a.tmps.toList) (M:bB F.D D F.α α F.C (aQ D α h) F.w w)
  (I:Ok P B0 w0 D' α' h' w') (G:bB D D' α α' (aQ D α h) (aQ D' α' h') w w') (Z:∀ i,D' i→i < F.n→F.D i) (j:Option Tmp) {v:AV} {x:Value} (ab:v.Rel P α' (Own B0 D' α' h') w' D' x):cv P B0 w0 F (jY j v T) h' (a.put j x) w':=by
 have U:(a.put j x).defers=a.defers:=by cases j <;> rfl
 refine ⟨by rw [U];exact N.mono O I G,D',α',I, ?_,M.trans G,Z⟩
 have J:=ao.mono _ _ (G.keeps B0) S
 rw [yz]
 cases j with
 | none=>exact J
 | some d=>
  show ao P α' (Own B0 D' α' h') w' (T.set d v) D' (a.tmps.setIfInBounds d x).toList
  rw [Array.toList_setIfInBounds]
  exact ao.set J d ab
theorem Pq {Q:Exit→Act→World→Prop} {i:Nat} {o:Oper} {K:Act→World→Prop} {a:Act} {w:World} (J:ops[i]? =some o)
  (G:Region.wanted o (yielded ops a.tmps)=true→o.wpIn (W ro) 0 P a w K Q) (I:Region.wanted o (yielded ops a.tmps)=false→K (a.put o.dst undef) w):wpOpIn (W ro) 0 P ops Q i K a w:=by
 unfold wpOpIn
 simp only [J]
 cases j:Region.wanted o (yielded ops a.tmps) with
 | true=>simp only [if_true];exact G j
 | false=>simp only [Bool.false_eq_true,if_false];exact ⟨fun _ _=>trivial,I j⟩
def wi (T:List AV) (ops:Array Oper) (o:Oper):Prop:=∀ j G,o.guard=some (j,G)→∀ d,(ops[j]?).bind (·.dst)=some d→∃ v,al T d= .val v
def One (P : Program) (ops : Array Oper) (I : Bool) (o : Oper) (T : List AV) (H : Hp) (lo : Nat) (v : AV) (j : Hp) (G : Tch × Nat × Nat) : Prop :=
  H.length ≤ j.length ∧ (lo ≤ H.length → ∀ m, m < lo → j[m]? = H[m]?) ∧ wi T ops o ∧
  ((Region.wanted o (g9 T ops) = true ∧ G.2 = (H.length, j.length) ∧ (∀ B0 w0, og P B0 w0 none T o (H[·]?) (H[·]?) H.length j.length v (j[·]?) true) ∧ (I = true → ∀ B0 w0, me P B0 w0 none T o H v j G.1)) ∨
   (Region.wanted o (g9 T ops) = false ∧ v = .val undef ∧ j = H ∧ G = (.some false [], H.length, H.length)))
theorem Et {x:Cx R} (N:eT x) (a3:x.P=P) {j:Bool} {o:Oper} {T:List AV} {H:Hp} {ab:Tl} {U:Lk R} {r:R} (h:tC x j o T H ab U=some r) (O:wi T ops o) (S:Region.wanted o (g9 T ops)=true):∃ v I Z,U (jY o.dst v T) I (Z :: ab)=some r∧One P ops j o T H x.lo v I Z:=by
 unfold tC at h
 have a7:eT (iq x j o H):=by
  unfold iq
  cases j&&jG o.op <;> exact ⟨N.C,N.cf,N.yf⟩
 have a4:(iq x j o H).P=P:=by
  unfold iq
  cases j&&jG o.op <;> exact a3
 have a2:(iq x j o H).E=x.E:=by
  unfold iq
  cases j&&jG o.op <;> rfl
 obtain ⟨a0,a1⟩:=acy (ro:=none) a7 a4 h
 cases j with
 | false=>
  have J:(iq x false o H).lo=x.lo:=rfl
  obtain ⟨v,I,k1,M,G⟩:=a0
  exact ⟨v,I,_,k1,(G (fun _=>False) default).1,by rw [J] at M;exact M,O, .inl ⟨S,rfl,fun B0 w0=>(G B0 w0).sY,fun h=>by cases h⟩⟩
 | true=>
  have a6:(iq x true o H).lo=H.length∨jG o.op=false:=by
   unfold iq
   cases bx:jG o.op with
   | true=>exact .inl rfl
   | false=>exact .inr rfl
  obtain ⟨v,I,k1,M,G⟩:=a1 a6
  rw [a2] at G
  have a5:=(G (fun _=>False) default).1
  refine ⟨v,I,_,k1,a5,fun bD m b0=> ?_,O, .inl ⟨S,rfl,fun B0 w0=>(G B0 w0).sY,fun _ B0 w0=>G B0 w0⟩⟩
  have J:(iq x true o H).lo=x.lo∨(iq x true o H).lo=H.length:=by
   unfold iq
   cases jG o.op with
   | true=>exact .inr rfl
   | false=>exact .inl rfl
  rcases J with J | J
  ·exact M (by omega) m (by omega)
  ·exact M (by omega) m (by omega)
theorem Cf {x:Cx R} (a5:eT x) (a3:x.P=P) {a4:Bool} {o:Oper} {T:List AV} {H:Hp} {a0:Tl} {ab:Lk R} {r:R} (h:CI x ops a4 o T H a0 ab=some r):∃ v M O,ab (jY o.dst v T) M (O :: a0)=some r∧One P ops a4 o T H x.lo v M O:=by
 unfold CI at h
 have skip:∀ {a2:List AV},a2=T→Region.wanted o (g9 T ops)=false→wi T ops o→xR o a2 H a0 ab=some r→∃ v M O,ab (jY o.dst v T) M (O :: a0)=some r∧One P ops a4 o T H x.lo v M O:=by
  rintro a2 rfl G j h
  exact ⟨_,H,_,h,Nat.le_refl _,fun _ _ _=>rfl,j, .inr ⟨G,rfl,rfl,rfl⟩⟩
 split at h
 ·rename_i N
  exact Et (ops:=ops) a5 a3 h (fun Z a1 e=>by rw [N] at e;cases e) (by rw [Region.wanted,N])
 ·rename_i bx N
  obtain ⟨Z,a1⟩:=bx
  have G:Region.wanted o (g9 T ops)=(g9 T ops Z==some a1):=by rw [Region.wanted,N]
  split at h
  ·rename_i d I
   unfold KZ at h
   split at h
   ·rename_i v U
    have j:wi T ops o:=by
     intro b0 b1 e bD a6
     rw [N] at e
     cases e
     simp only at I
     rw [I] at a6
     cases a6
     exact ⟨v,U⟩
    split at h
    ·rename_i b
     have J:g9 T ops Z=some b:=by unfold g9;simp only at I;rw [I];simp only [U]
     have S:nA T d b=T:=fix_eq U
     cases b with
     | true=>
      cases a1 with
      | true=>
       simp only [cond] at h
       rw [S] at h
       exact Et (ops:=ops) a5 a3 h j (by rw [G,J];rfl)
      | false=>exact skip S (by rw [G,J];rfl) j h
     | false=>
      cases a1 with
      | true=>exact skip S (by rw [G,J];rfl) j h
      | false=>
       simp only [cond] at h
       rw [S] at h
       exact Et (ops:=ops) a5 a3 h j (by rw [G,J];rfl)
    ·rename_i a7
     have J:g9 T ops Z=none:=by
      unfold g9
      simp only at I
      rw [I]
      simp only [U]
      split
      ·rename_i e;cases e;exact absurd rfl (a7 _)
      ·rfl
     exact skip rfl (by rw [G,J];rfl) j h
   ·cases h
  ·cases h
end
end Go.V
namespace Go.V
open Go Go.RowKit
section
variable {R : Type} {P : Program} {B0 : Nat → Prop} {w0 : World} {F : Fr} {ro : Option Nat} {ops : Array Oper}
theorem Wy {D:Nat→Prop} {α:Nat→Nat×Nat} {w:World} {H:Hp} {J:Nat} (G:Ok P B0 w0 D α (H[·]?) w):Ii D (H[·]?) (H[·]?) H.length J true:=
 ⟨fun i M _ j=>by obtain ⟨k,I⟩:=G.lt i j;have:=(List.getElem?_eq_some_iff.1 I).1;omega,fun _ _ _=>rfl⟩
theorem LW {J:Bool} {i:Nat} {o:Oper} {T:List AV} {H:Hp} {lo:Nat} {v:AV} {O:Hp} {b1:Tch×Nat×Nat} (N:ops[i]? =some o) (h:One P ops J o T H lo v O b1) (a1:w0.heap.size≤F.w.heap.size) (b3:F.n≤H.length) {a:Act} {w:World} (a7:cv P B0 w0 F T (H[·]?) a w) {K:Act→World→Prop} {Q:Exit→Act→World→Prop}
  (Z:∀ S w',cv P B0 w0 F (jY o.dst v T) (O[·]?) S w'→K S w'):wpOpIn (W ro) 0 P ops Q i K a w:=by
 obtain ⟨ab,D,α,j,I,U,a0⟩:=a7
 obtain ⟨_,_,a5,h⟩:=h
 have a2:Region.wanted o (yielded ops a.tmps)=Region.wanted o (g9 T ops):=by
  unfold Region.wanted
  cases M:o.guard with
  | none=>rfl
  | some b0=>obtain ⟨bD,b2⟩:=b0;simp only [Pz (fun d _=>ao.slot I d) (fun d J=>a5 bD b2 M d J)]
 refine Pq N (fun G=> ?_) (fun G=> ?_)
 ·rcases h with ⟨_,_,h,_⟩ | ⟨h,_⟩
  ·refine h B0 w0 ro D α a w _ _ j (Wy j) (fun x _=>tq x (fun d _=>ao.slot I d)) ?_
   intro D' α' w' x a4 a3 M bx
   exact Z _ _ (NU a1 ab j I U a4 M (fun i N a6=>(a3 i N).elim (fun h=>a0 i h a6) (fun h=>by omega)) o.dst bx)
  ·rw [a2,h] at G;cases G
 ·rcases h with ⟨h,_⟩ | ⟨_,rfl,rfl,_⟩
  ·rw [a2,h] at G;cases G
  ·exact Z _ _ (NU a1 ab j I U j (bB.refl _ _ _ _) a0 o.dst rfl)
theorem Kw {x:Cx R} (a6:eT x) (a0:x.P=P):∀ (l:List (Bool×Oper)) (J:List Nat) (T:List AV) (H:Hp) (S:Tl) (k:Lk R) (r:R),l.length=J.length→(∀ (O i:Nat) (o:Bool×Oper),J[O]? =some i→l[O]? =some o→ops[i]? =some o.2)→ln x ops l T H S k=some r→
  ∃ M j U,k M j (U ++ S)=some r∧H.length≤j.length∧(x.lo≤H.length→∀ m,m < x.lo→j[m]? =H[m]?)∧∀ (ro:Option Nat) (B0:Nat→Prop) (w0:World) (F:Fr) (Q:Exit→Act→World→Prop),w0.heap.size≤F.w.heap.size→F.n≤H.length→∀ a w,cv P B0 w0 F T (H[·]?) a w→(∀ N w',cv P B0 w0 F M (j[·]?) N w'→Q .normal N w')→wpOpsIn (W ro) 0 P ops Q J a w
 | [], [],T,H,S,k,r,_,_,h=> ⟨T,H, [],h,Nat.le_refl _,fun _ _ _=>rfl,fun ro B0 w0 F Q _ _ a w ab Z=>Z a w ab⟩
 | [],_ :: _,_,_,_,_,_,I,_,_=>by simp at I
 | _ :: _, [],_,_,_,_,_,I,_,_=>by simp at I
 | o :: l,i :: J,T,H,S,k,r,I,a2,h=>by
  unfold ln at h
  obtain ⟨v,ch,b8,b1,G⟩:=Cf a6 a0 h
  have b4:ops[i]? =some o.2:=a2 0 i o rfl rfl
  obtain ⟨M,j,U,a7,bx,bD,b0⟩:=Kw a6 a0 l J _ _ _ k r (by simpa using I) (fun O b6 b7 b2 b3=>a2 (O+1) b6 b7 (by simpa using b2) (by simpa using b3)) b1
  refine ⟨M,j,U ++ [b8],by rw [List.append_assoc];exact a7,Nat.le_trans G.1 bx,fun a3 m a4=>(bD (Nat.le_trans a3 G.1) m a4).trans (G.2.1 a3 m a4),fun ro B0 w0 F Q a5 a1 a w ab Z=> ?_⟩
  rw [wpOpsIn_cons]
  exact LW b4 G a5 a1 ab (fun N w' b5=>b0 ro B0 w0 F Q a5 (Nat.le_trans a1 G.1) N w' b5 Z)
structure hZ (P:Program) (ops:Array Oper) (m:Nat) (Ts:Nat→List AV) (Hs:Nat→Hp) (tcs:Nat→Tch×Nat×Nat):Prop where
 step:∀ i,i < m→∃ o v,ops[i]? =some o∧Ts (i+1)=jY o.dst v (Ts i)∧∃ lo,One P ops true o (Ts i) (Hs i) lo v (Hs (i+1)) (tcs i)
theorem NM {x:Cx R} (Z:eT x) (O:x.P=P) (u:List (Bool×Oper)):∀ (l:List (Bool×Oper)) (s:Nat) (T:List AV) (H:Hp) (G:Tl) (k:Lk R) (r:R),(∀ (j:Nat) (o:Bool×Oper),l[j]? =some o→ops[s+j]? =some o.2∧o.1=true)→ln x ops (l ++ u) T H G k=some r→
  ∃ (Ts:Nat→List AV) (Hs:Nat→Hp) (tcs:Nat→Tch×Nat×Nat),Ts s=T∧Hs s=H∧(∀ i,s≤i→i < s+l.length→∃ o v,ops[i]? =some o∧Ts (i+1)=jY o.dst v (Ts i)∧One P ops true o (Ts i) (Hs i) x.lo v (Hs (i+1)) (tcs i))∧
   ln x ops u (Ts (s+l.length)) (Hs (s+l.length)) (((List.range' s l.length).map tcs).reverse ++ G) k=some r
 | [],s,T,H,G,k,r,_,h=> ⟨fun _=>T,fun _=>H,fun _=>(.all,0,0),rfl,rfl,fun i N I=>by simp at I;omega,by simpa using h⟩
 | o :: l,s,T,H,G,k,r,S,h=>by
  rw [List.cons_append] at h
  unfold ln at h
  obtain ⟨J,a7⟩:=S 0 o rfl
  rw [a7] at h
  obtain ⟨v,bD,M,N,I⟩:=Cf Z O h
  obtain ⟨Ts,Hs,tcs,ab,a0,a1,a2⟩:=NM Z O u l (s+1) _ _ _ k r (fun j bx a6=>by have:=S (j+1) bx (by simpa using a6);rwa [show s+(j+1)=s+1+j by omega] at this) N
  refine ⟨fun i=>if i=s then T else Ts i,fun i=>if i=s then H else Hs i,fun i=>if i=s then M else tcs i,if_pos rfl,if_pos rfl,fun i b0 a5=> ?_, ?_⟩
  ·rw [List.length_cons] at a5
   by_cases U:i=s
   ·subst U
    simp only [if_true,show ¬ i+1=i by omega,if_false]
    exact ⟨o.2,v,J,ab,by rw [a0];exact I⟩
   ·simp only [U,if_false,show ¬ i+1=s by omega]
    exact a1 i (by omega) (by omega)
  ·have a3:s+(o :: l).length=s+1+l.length:=by rw [List.length_cons];omega
   rw [a3]
   simp only [show ¬ s+1+l.length=s by omega,if_false]
   have a4:((List.range' s (o :: l).length).map fun i=>if i=s then M else tcs i).reverse ++ G=((List.range' (s+1) l.length).map tcs).reverse ++ (M :: G):=by
    rw [List.length_cons,List.range'_succ,List.map_cons,List.reverse_cons,List.append_assoc]
    simp only [if_true,List.singleton_append]
    congr 2
    apply List.map_congr_left
    intro i J
    rw [if_neg]
    have:=List.mem_range'_1.1 J
    omega
   rw [a4]
   exact a2
variable {m : Nat} {Ts : Nat → List AV} {Hs : Nat → Hp} {tcs : Nat → Tch × Nat × Nat} {c : Nat → List Nat}
def il (ops:Array Oper) (j:Nat):Option Tmp:=(ops[j]?).bind (·.dst)
theorem ZA {j:Option Tmp} {v:AV} {T:List AV} {t:Nat} (h:j≠some t):(jY j v T)[t]? =T[t]? :=by
 rw [yz]
 cases j with
 | none=>rfl
 | some d=>exact List.getElem?_set_ne (fun e=>h (by rw [e]))
theorem ZB (j:Option Tmp) (v:AV) (T:List AV):(jY j v T).length=T.length:=by
 rw [yz]
 cases j with
 | none=>rfl
 | some d=>exact List.length_set
theorem hZ.len (h:hZ P ops m Ts Hs tcs):∀ i,i≤m→(Ts i).length=(Ts 0).length:=by
 intro i
 induction i with
 | zero=>intro _;rfl
 | succ i j=>
  intro G
  obtain ⟨o,v,_,e,_⟩:=h.step i (by omega)
  rw [e,ZB,j (by omega)]
theorem hZ.yM (h:hZ P ops m Ts Hs tcs) {t:Nat} {i:Nat} :∀ j,i≤j→j≤m→(∀ G,i≤G→G < j→il ops G≠some t)→(Ts j)[t]? =(Ts i)[t]? :=by
 intro j
 induction j with
 | zero=>intro M N I;rw [show i=0 by omega]
 | succ j ab=>
  intro M N I
  by_cases U:i=j+1
  ·rw [U]
  ·obtain ⟨o,v,Z,e,_⟩:=h.step j (by omega)
   have J:=I j (by omega) (by omega)
   unfold il at J
   rw [Z] at J
   have S:o.dst≠some t:=J
   rw [e,ZA S]
   exact ab (by omega) (by omega) (fun G O a0=>I G O (by omega))
theorem hZ.mono (h:hZ P ops m Ts Hs tcs) {i:Nat} :∀ j,i≤j→j≤m→(Hs i).length≤(Hs j).length:=by
 intro j
 induction j with
 | zero=>intro G I;rw [show i=0 by omega];exact Nat.le_refl _
 | succ j N=>
  intro G I
  by_cases M:i=j+1
  ·rw [M];exact Nat.le_refl _
  ·obtain ⟨o,v,_,_,lo,J⟩:=h.step j (by omega)
   exact Nat.le_trans (N (by omega) (by omega)) J.1
def Wr (Hs:Nat→Hp) (tcs:Nat→Tch×Nat×Nat) (j n:Nat):Prop:=(n,true) ∈ (tcs j).1.ls∨((Hs j).length≤n∧n < (Hs (j+1)).length)
structure pS (m:Nat) (c:Nat→List Nat) (Hs:Nat→Hp) (tcs:Nat→Tch×Nat×Nat):Prop where
 some:∀ i,i < m→(tcs i).1.isSome=true
 ids:∀ i,i < m→(tcs i).2=((Hs i).length,(Hs (i+1)).length)
 MY:∀ i j,i < j→j < m→i ∉ c j→(tcs i).1.rd=true→(∀ n,(n,true) ∉ (tcs j).1.ls)∧(Hs (j+1)).length≤(Hs j).length
 Z5:∀ i j,i < j→j < m→i ∉ c j→(tcs j).1.rd=true→∀ n,(n,true) ∉ (tcs i).1.ls
 both:∀ i j,i < j→j < m→i ∉ c j→∀ n a b,(n,a) ∈ (tcs i).1.ls→(n,b) ∈ (tcs j).1.ls→a=false∧b=false
 low:∀ j,j < m→∀ n b,(n,b) ∈ (tcs j).1.ls→n < (Hs j).length
 new:∀ i j,i < j→j < m→i ∉ c j→∀ n b,(n,b) ∈ (tcs j).1.ls→¬ ((Hs i).length≤n∧n < (Hs (i+1)).length)
theorem LC {l:List (Nat×Bool)} (h:C0 l=true) (n:Nat):(n,true) ∉ l:=by
 intro j
 have:=List.all_eq_true.1 h _ j
 simp at this
theorem QS {a6:Tl} (M:∀ i,i < ca ops→a6.reverse[i]? =some (tcs i)) (ab:∀ i,i < ca ops→(tcs i).2=((Hs i).length,(Hs (i+1)).length)) (h:GL ops a6=true):pS (ca ops) (fun d=>(ml ops.toList).getD d []) Hs tcs:=by
 unfold GL at h
 rw [List.all_eq_true] at h
 have b2:∀ i j,i < j→j < ca ops→i ∉ (ml ops.toList).getD j []→Bf (tcs i) (tcs j)=true:=by
  intro i j N I O
  have J:=h j (List.mem_range.2 I)
  rw [Bool.and_eq_true] at J
  have G:=List.all_eq_true.1 J.2 i (List.mem_range.2 N)
  rw [M i (by omega),M j I,Bool.or_eq_true,List.contains_iff_mem] at G
  exact G.resolve_left O
 have some:∀ i,i < ca ops→(tcs i).1.isSome=true:=by
  intro i a5
  have J:=h i (List.mem_range.2 a5)
  rw [Bool.and_eq_true,M i a5,Bool.and_eq_true] at J
  exact J.1.1
 have low:∀ j,j < ca ops→∀ n b,(n,b) ∈ (tcs j).1.ls→n < (Hs j).length:=by
  intro j I n b a2
  have J:=h j (List.mem_range.2 I)
  rw [Bool.and_eq_true,M j I,Bool.and_eq_true] at J
  have G:=of_decide_eq_true (List.all_eq_true.1 J.1.2 _ a2)
  rw [ab j I] at G
  exact G
 have a0:∀ i j,i < j→j < ca ops→i ∉ (ml ops.toList).getD j []→apart (tcs i).1 (tcs j).1=true∧((tcs i).1.rd=false∨(tcs j).2.2≤(tcs j).2.1)∧∀ y ∈ (tcs j).1.ls,¬ ((tcs i).2.1≤y.1∧y.1 < (tcs i).2.2):=by
  intro i j N I O
  have:=b2 i j N I O
  unfold Bf at this
  simp only [Bool.and_eq_true,Bool.or_eq_true,Bool.not_eq_true',List.all_eq_true,decide_eq_true_eq] at this
  refine ⟨this.1.1,this.1.2,fun y a3 Z=> ?_⟩
  have S:=this.2 y a3
  rw [Bool.and_eq_false_iff] at S
  rcases S with S | S
  ·exact absurd Z.1 (of_decide_eq_false S)
  ·exact absurd Z.2 (of_decide_eq_false S)
 have a1:∀ {x y:Tch},apart x y=true→x.isSome=true→y.isSome=true→(x.rd=true→∀ n,(n,true) ∉ y.ls)∧(y.rd=true→∀ n,(n,true) ∉ x.ls)∧∀ n a b,(n,a) ∈ x.ls→(n,b) ∈ y.ls→a=false∧b=false:=by
  intro x y U b1 a3
  cases x with
  | all=>cases b1
  | some a l=>
   cases y with
   | all=>cases a3
   | some b m=>
    unfold apart at U
    split at U
    ·rename_i e
     cases e
     exact ⟨fun h=>(by cases h),fun _ n h=>(by simp [Tch.ls] at h),fun n a b h=>(by simp [Tch.ls] at h)⟩
    ·rename_i e _
     cases e
     exact ⟨fun _ n h=>(by simp [Tch.ls] at h),fun h=>(by cases h),fun n a b _ h=>(by simp [Tch.ls] at h)⟩
    ·rename_i a7 bx
     cases a7
     cases bx
     simp only [Bool.and_eq_true,Bool.or_eq_true,Bool.not_eq_true'] at U
     obtain ⟨⟨J,G⟩,S⟩:=U
     refine ⟨fun M n=> ?_,fun M n=> ?_,fun n p q bD b0=> ?_⟩
     ·rcases J with J | J
      ·rw [show a=true from M] at J;cases J
      ·exact LC J n
     ·rcases G with G | G
      ·rw [show b=true from M] at G;cases G
      ·exact LC G n
     ·have a4:=List.all_eq_true.1 (List.all_eq_true.1 S _ bD) _ b0
      simp at a4
      exact a4
    ·cases U
 refine ⟨some,ab,fun i j N I O M=> ?_,fun i j N I O M=> ?_,fun i j N I O=> ?_,low,fun i j N I O n b a2 Z=> ?_⟩
 ·obtain ⟨J,G,_⟩:=a0 i j N I O
  refine ⟨(a1 J (some i (by omega)) (some j I)).1 M, ?_⟩
  rcases G with G | G
  ·rw [M] at G;cases G
  ·rw [ab j I] at G;exact G
 ·exact (a1 (a0 i j N I O).1 (some i (by omega)) (some j I)).2.1 M
 ·exact (a1 (a0 i j N I O).1 (some i (by omega)) (some j I)).2.2
 ·have:=(a0 i j N I O).2.2 _ a2
  rw [ab i (by omega)] at this
  exact this Z
end
end Go.V
namespace Go.V
open Go Go.RowKit
section
variable {R : Type} {P : Program} {B0 : Nat → Prop} {w0 : World} {F : Fr} {ro : Option Nat} {ops : Array Oper} {m : Nat} {c : Nat → List Nat} {Ts : Nat → List AV} {Hs : Nat → Hp} {tcs : Nat → Tch × Nat × Nat}
open Classical in
noncomputable def cH (Hs:Nat→Hp) (tcs:Nat→Tch×Nat×Nat) (b:Nat→Bool):Nat→Hf
 | 0=>fun n=>(Hs 0)[n]?
 | j+1=>fun n=>if b j=true∧Wr Hs tcs j n then (Hs (j+1))[n]? else cH Hs tcs b j n
theorem YT (h:hZ P ops m Ts Hs tcs) (Z:pS m c Hs tcs) {j:Nat} (M:j < m) {n:Nat} (N:¬ Wr Hs tcs j n):(Hs (j+1))[n]? =(Hs j)[n]? :=by
 obtain ⟨o,v,_,_,lo,S⟩:=h.step j M
 obtain ⟨a1,_,_,U⟩:=S
 by_cases ab:n < (Hs j).length
 ·rcases U with ⟨_,_,_,I⟩ | ⟨_,_,I,_⟩
  ·have G:=I rfl (fun _=>False) default
   unfold me at G
   obtain ⟨_,G⟩:=G
   have O:=Z.some j M
   cases J:(tcs j).1 with
   | all=>rw [J] at O;cases O
   | some rd l=>
    rw [J] at G
    exact G.1 n ab (fun a0=>N (.inl (by rw [J];exact a0)))
  ·rw [I]
 ·have:¬ n < (Hs (j+1)).length:=fun h=>N (.inr ⟨by omega,h⟩)
  rw [List.getElem?_eq_none (by omega),List.getElem?_eq_none (by omega)]
theorem xN (h:hZ P ops m Ts Hs tcs) (a0:pS m c Hs tcs) {b:Nat→Bool} {n i:Nat} (a1:i≤m) (U:∀ G,G < i→Wr Hs tcs G n→b G=true) (Z:∀ G,i≤G→G < m→Wr Hs tcs G n→b G=false):cH Hs tcs b m n=(Hs i)[n]? :=by
 have O:∀ j,j≤i→cH Hs tcs b j n=(Hs j)[n]? :=by
  intro j
  induction j with
  | zero=>intro _;rfl
  | succ j M=>
   intro a3
   unfold cH
   by_cases J:Wr Hs tcs j n
   ·rw [if_pos ⟨U j (by omega) J,J⟩]
   ·rw [if_neg (fun I=>J I.2),M (by omega),YT h a0 (by omega) J]
 have S:∀ j,i≤j→j≤m→cH Hs tcs b j n=(Hs i)[n]? :=by
  intro j
  induction j with
  | zero=>intro ab _;rw [show i=0 by omega];rfl
  | succ j M=>
   intro ab a2
   by_cases N:i=j+1
   ·rw [N];exact N ▸ O i (Nat.le_refl _)
   ·unfold cH
    rw [if_neg (fun I=>by rw [Z j (by omega) (by omega) I.2] at I;cases I.1)]
    exact M (by omega) (by omega)
 exact S m a1 (Nat.le_refl _)
theorem xO {b M:Nat→Bool} {i:Nat} (I:∀ j,j≠i→M j=b j) {n:Nat} (G:¬ Wr Hs tcs i n):∀ j,cH Hs tcs M j n=cH Hs tcs b j n
 | 0=>rfl
 | j+1=>by
  unfold cH
  by_cases N:j=i
  ·subst N
   rw [if_neg (fun J=>G J.2),if_neg (fun J=>G J.2)]
   exact xO I G j
  ·rw [I j N,xO I G j]
def oh (P:Program) (B0:Nat→Prop) (w0:World) (F:Fr) (ops:Array Oper) (m:Nat) (Ts:Nat→List AV) (Hs:Nat→Hp) (tcs:Nat→Tch×Nat×Nat) (b:Nat→Bool) (a:Act) (w:World):Prop:=
 Marks F.w.heap.size w a.defers∧∃ D α,Ok P B0 w0 D α (cH Hs tcs b m) w∧(∀ n,D n→n < (Hs 0).length∨∃ j,j < m∧b j=true∧(Hs j).length≤n∧n < (Hs (j+1)).length)∧a.tmps.size=(Ts 0).length∧
  (∀ t,t < (Ts 0).length→∃ x v,a.tmps[t]? =some x∧v.Rel P α (Own B0 D α (cH Hs tcs b m)) w D x∧((∃ j,j < m∧b j=true∧il ops j=some t∧(Ts m)[t]? =some v)∨((∀ j,j < m→b j=true→il ops j≠some t)∧(Ts 0)[t]? =some v)))∧
  bB F.D D F.α α F.C (aQ D α (cH Hs tcs b m)) F.w w∧∀ i,D i→i < F.n→F.D i
theorem KU {b:Nat→Bool} (G:∀ j,b j=false):∀ j,cH Hs tcs b j=((Hs 0)[·]?)
 | 0=>rfl
 | j+1=>by
  funext n
  unfold cH
  rw [if_neg (fun I=>by rw [G j] at I;cases I.1),KU G j]
theorem Yz {a:Act} {w:World} (a1:cv P B0 w0 F (Ts 0) ((Hs 0)[·]?) a w) {b:Nat→Bool} (M:∀ j,b j=false):oh P B0 w0 F ops m Ts Hs tcs b a w:=by
 obtain ⟨U,D,α,I,J,S,Z⟩:=a1
 unfold oh
 rw [KU M m]
 refine ⟨U,D,α,I,fun n a0=> .inl (by obtain ⟨k,ab⟩:=I.lt n a0;exact (List.getElem?_eq_some_iff.1 ab).1), ?_,fun t N=> ?_,S,Z⟩
 ·have:=ao.len J
  rwa [Array.length_toList] at this
 ·obtain ⟨x,G,O⟩:=ao.get J (List.getElem?_eq_getElem N)
  rw [Array.getElem?_toList] at G
  exact ⟨x,_,G,O, .inr ⟨fun j _ h=>absurd ((M j).symm.trans h) (by decide),List.getElem?_eq_getElem N⟩⟩
theorem Yy (M:Order ops m c) (U:hZ P ops m Ts Hs tcs) {D:Nat→Prop} {α:Nat→Nat×Nat} {B:Nat→Prop} {b:Nat→Bool} {a:Act} {w:World} (c3:a.tmps.size=(Ts 0).length)
  (a7:∀ t,t < (Ts 0).length→∃ x v,a.tmps[t]? =some x∧v.Rel P α B w D x∧((∃ j,j < m∧b j=true∧il ops j=some t∧(Ts m)[t]? =some v)∨((∀ j,j < m→b j=true→il ops j≠some t)∧(Ts 0)[t]? =some v)))
  {i:Nat} (a1:i < m) {o:Oper} (b5:ops[i]? =some o) (ch:∀ j ∈ c i,b j=true) (b0:∀ j,j < m→b j=true→i ∉ c j) (d:Nat) (bD:d ∈ o.looksAt ops):wx P α B w D (Ts i) a.tmps d:=by
 obtain ⟨a3,O,b1⟩:=M.head i a1
 rw [b5] at O
 cases O
 have a2:∀ j,j < m→il ops j=some d→j ∈ c i∨i ∈ c j:=by
  intro j N I
  obtain ⟨c4,b6,_,S⟩:=b1 j N
  refine S d ?_ bD
  unfold il at I
  rw [b6] at I
  exact I
 have b2:i < ops.size:=Nat.lt_of_lt_of_le a1 M.le
 by_cases b8:d < (Ts 0).length
 ·obtain ⟨x,v,a4,S,a5⟩:=a7 d b8
  right
  refine ⟨v,x, ?_,a4,S⟩
  rcases a5 with ⟨j,N,bx,I,Z⟩ | ⟨b3,Z⟩
  ·have c2:=M.lt i b2 j ((a2 j N I).resolve_right (b0 j N bx))
   rw [← U.yM m (by omega) (Nat.le_refl _) (i:=i) (t:=d) ?_]
   ·exact Z
   ·intro ct c1 ab J
    obtain ⟨a3,O,b4⟩:=M.head j N
    obtain ⟨c0,b7,G,_⟩:=b4 ct ab
    unfold il at J I
    rw [O] at I
    rw [b7] at J
    have a0:a3.dst=some d:=I
    have a6:c0.dst=some d:=J
    rcases G with G | G | G
    ·omega
    ·rw [a0] at G;cases G
    ·exact G (a0.trans a6.symm)
  ·rw [U.yM i (Nat.zero_le _) (by omega) (i:=0) (t:=d) ?_]
   ·exact Z
   ·intro j _ ab J
    rcases a2 j (by omega) J with G | G
    ·exact b3 j (by omega) (ch j G) J
    ·have:=M.lt j (by omega) i G
     omega
 ·left
  exact ⟨List.getElem?_eq_none (by rw [U.len i (by omega)];omega),Array.getElem?_eq_none (by omega)⟩
theorem YA (hl:w0.heap.size≤F.w.heap.size) (hd:F.n≤(Hs 0).length) (ez:Order ops m c) (M:hZ P ops m Ts Hs tcs) (S:pS m c Hs tcs) {b a4:Nat→Bool} {a:Act} {w:World} (gn:oh P B0 w0 F ops m Ts Hs tcs b a w) {i:Nat} (ab:i < m) (ep:∀ j ∈ c i,b j=true) (c1:b i=false) (c2:∀ j,j < m→b j=true→i ∉ c j)
  (c0:∀ j,a4 j=if j=i then true else b j) {Q:Exit→Act→World→Prop} {K:Act→World→Prop} (fa:∀ a w,oh P B0 w0 F ops m Ts Hs tcs a4 a w→K a w):wpOpIn (W ro) 0 P ops Q i K a w:=by
 obtain ⟨fc,D,α,dx,b8,eo,ev,e6,fh⟩:=gn
 obtain ⟨o,v,c4,e,lo,c5⟩:=M.step i ab
 obtain ⟨hh,hg,fv,c5⟩:=c5
 have e0:=fun d a3=>Yy ez M eo ev ab c4 ep c2 d a3
 have g6:∀ x ∈ o.op.operands,(aA (Ts i) x).Rel P α (Own B0 D α (cH Hs tcs b m)) w D (a.eval x):=by
  intro x g7
  refine tq x (fun d a3=>e0 d ?_)
  subst a3
  unfold Oper.looksAt
  exact List.mem_append_left _ (List.mem_filterMap.2 ⟨.tmp d,Array.mem_toList_iff.2 g7,rfl⟩)
 have e5:Region.wanted o (yielded ops a.tmps)=Region.wanted o (g9 (Ts i) ops):=by
  unfold Region.wanted
  cases bx:o.guard with
  | none=>rfl
  | some g8=>
   obtain ⟨j,hc⟩:=g8
   simp only
   rw [Pz (fun d a3=>e0 d ?_) (fun d a3=>fv j hc bx d a3)]
   unfold Oper.looksAt
   rw [bx]
   refine List.mem_append_right _ ?_
   simp only [a3,Option.toList,List.mem_singleton]
 have eN:il ops i=o.dst:=by unfold il;rw [c4];rfl
 have g5:∀ t,o.dst=some t→∀ j,j < m→j≠i→il ops j≠some t:=by
  intro t b6 j J U ed
  obtain ⟨ho,e1,g1⟩:=ez.head i ab
  rw [c4] at e1
  cases e1
  obtain ⟨hb,g4,a2,_⟩:=g1 j J
  unfold il at ed
  rw [g4] at ed
  have fs:hb.dst=some t:=ed
  rcases a2 with a2 | a2 | a2
  ·exact U a2.symm
  ·rw [b6] at a2;cases a2
  ·exact a2 (b6.trans fs.symm)
 have keep:∀ j,b j=true→a4 j=true:=fun j h=>by rw [c0 j];by_cases J:j=i <;> simp [J,h]
 have eb:∀ j,j≠i→a4 j=b j:=fun j J=>by rw [c0 j,if_neg J]
 have c7:∀ n j,Wr Hs tcs j n→((∃ a,(n,a) ∈ (tcs i).1.ls)∧n < (Hs i).length∨Wr Hs tcs i n)→j < m→j≠i→(j < i→b j=true)∧(i < j→b j=false):=by
  intro n j G e4 J U
  constructor
  ·intro a0
   cases N:b j with
   | true=>rfl
   | false=>
    have a5:j ∉ c i:=fun ec=>by rw [ep j ec] at N;cases N
    exfalso
    rcases e4 with ⟨⟨a,c3⟩,g2⟩ | O
    ·rcases G with G | G
     ·have:=S.both j i a0 ab a5 n true a G c3;cases this.1
     ·exact S.new j i a0 ab a5 n a c3 G
    ·rcases O with O | O
     ·rcases G with G | G
      ·have:=S.both j i a0 ab a5 n true true G O;cases this.1
      ·exact S.new j i a0 ab a5 n true O G
     ·rcases G with G | G
      ·-- j touches a block that i makes:j's touches lie below
       have I:=M.mono i (show j+1≤i by omega) (by omega)
       have bD:=M.mono (j+1) (show j≤j+1 by omega) (by omega)
       obtain ⟨hq,hr,hj,_,hn,hk⟩:=M.step j J
       exact absurd (S.low j J n true G) (by omega)
      ·have I:=M.mono i (show j+1≤i by omega) (by omega)
       omega
  ·intro a0
   cases N:b j with
   | false=>rfl
   | true=>
    have a5:=c2 j J N
    exfalso
    rcases e4 with ⟨⟨a,c3⟩,g2⟩ | O
    ·rcases G with G | G
     ·have:=S.both i j a0 J a5 n a true c3 G;cases this.2
     ·have I:=M.mono j (show i≤j by omega) (by omega);omega
    ·rcases O with O | O
     ·rcases G with G | G
      ·have:=S.both i j a0 J a5 n true true O G;cases this.1
      ·have I:=M.mono j (show i≤j by omega) (by omega)
       have:=S.low i ab n true O
       omega
     ·rcases G with G | G
      ·exact S.new i j a0 J a5 n true G O
      ·have I:=M.mono j (show i+1≤j by omega) (by omega);omega
 have dy:a4 i=true:=by rw [c0 i,if_pos rfl]
 have ha:∀ n,D n→(Hs i).length≤n→n < (Hs (i+1)).length→False:=by
  intro n a1 I bD
  rcases b8 n a1 with a6 | ⟨j,J,N,a6,a7⟩
  ·have:=M.mono i (Nat.zero_le i) (by omega);omega
  ·have U:j≠i:=fun h=>by rw [h,c1] at N;cases N
   rcases Nat.lt_or_gt_of_ne U with Z | Z
   ·have:=M.mono i (show j+1≤i by omega) (by omega);omega
   ·have:=M.mono j (show i+1≤j by omega) (by omega);omega
 have eu:∀ (D':Nat→Prop) (α':Nat→Nat×Nat) (w':World) (x:Value),Ok P B0 w0 D' α' (cH Hs tcs a4 m) w'→(∀ n,D' n→D n∨((Hs i).length≤n∧n < (Hs (i+1)).length))→bB D D' α α' (aQ D α (cH Hs tcs b m)) (aQ D' α' (cH Hs tcs a4 m)) w w'→v.Rel P α' (Own B0 D' α' (cH Hs tcs a4 m)) w' D' x→
   K (a.put o.dst x) w':=by
  intro D' α' w' x ct ch bx et
  have a3:(a.put o.dst x).defers=a.defers:=by cases o.dst <;> rfl
  have hi:=M.mono i (Nat.zero_le i) (by omega)
  refine fa _ _ ⟨by rw [a3];exact fc.mono dx ct bx,D',α',ct, ?_, ?_, ?_,e6.trans bx,fun n a1 a0=>(ch n a1).elim (fun h=>fh n h a0) (fun h=>by omega)⟩
  ·intro n a1
   rcases ch n a1 with I | I
   ·rcases b8 n I with bD | ⟨j,bD,a6,a7⟩
    ·exact .inl bD
    ·exact .inr ⟨j,bD,keep j a6,a7⟩
   ·exact .inr ⟨i,ab,dy,I⟩
  ·cases a3:o.dst with
   | none=>exact eo
   | some d=>show (a.tmps.setIfInBounds d x).size=_;rw [Array.size_setIfInBounds];exact eo
  ·intro t b6
   by_cases b2:o.dst=some t
   ·refine ⟨x,v, ?_,et, .inl ⟨i,ab,dy,eN.trans b2, ?_⟩⟩
    ·rw [b2]
     show (a.tmps.setIfInBounds t x)[t]? =some x
     rw [Array.getElem?_setIfInBounds_self_of_lt (by omega)]
    ·rw [M.yM m (by omega) (Nat.le_refl _) (i:=i+1) (t:=t) (fun j a7 Z=>g5 t b2 j Z (by omega)),e,yz,b2]
     exact List.getElem?_set_self (by rw [M.len i (by omega)];exact b6)
   ·obtain ⟨y,u,I,bD,a6⟩:=ev t b6
    refine ⟨y,u, ?_,AV.Rel.mono _ _ (bx.keeps B0) bD, ?_⟩
    ·cases a3:o.dst with
     | none=>exact I
     | some d=>
      show (a.tmps.setIfInBounds d x)[t]? =some y
      rw [Array.getElem?_setIfInBounds_ne (fun h=>b2 (by rw [a3,h]))]
      exact I
    ·rcases a6 with ⟨j,a7,Z,c8⟩ | ⟨a7,Z⟩
     ·exact .inl ⟨j,a7,keep j Z,c8⟩
     ·refine .inr ⟨fun j c8 a2=> ?_,Z⟩
      rw [c0 j] at a2
      split at a2
      ·rename_i U;rw [U,eN];exact b2
      ·exact a7 j c8 a2
 refine Pq c4 (fun b1=> ?_) (fun b1=> ?_)
 ·rw [e5] at b1
  rcases c5 with ⟨_,b0,_,I⟩ | ⟨I,_⟩
  ·have I:=I rfl B0 w0
   have e3:=S.some i ab
   cases b0:(tcs i).1 with
   | all=>rw [b0] at e3;cases e3
   | some rd l=>
    have eh:(tcs i).1.ls=l:=by rw [b0];rfl
    have en:(tcs i).1.rd=rd:=by rw [b0];rfl
    rw [b0] at I
    obtain ⟨_,_,I⟩:=I
    have b4:cg (cH Hs tcs b m) (Hs i) (Hs (i+1)) l=cH Hs tcs a4 m:=by
     funext n
     unfold cg
     by_cases O:Wr Hs tcs i n
     ·rw [if_pos (by rw [← eh];exact O)]
      refine (xN M S (show i+1≤m by omega) (fun j J G=> ?_) (fun j J b3 G=> ?_)).symm
      ·by_cases U:j=i
       ·rw [U];exact dy
       ·exact keep j ((c7 n j G (.inr O) (by omega) U).1 (by omega))
      ·rw [eb j (by omega)]
       exact (c7 n j G (.inr O) b3 (by omega)).2 (by omega)
     ·rw [if_neg (by rw [← eh];exact O)]
      exact (xO eb O m).symm
    refine I (cH Hs tcs b m) (fun n a1 a0=> ?_) ro D α a w _ _ dx ⟨fun n a1 b5 b7=> ?_,fun e2 n b7=> ?_⟩ g6 (fun D' α' w' x ct ch bx et=>eu D' α' w' x (b4 ▸ ct) ch (b4 ▸ bx) (b4 ▸ et))
    ·rw [← eh] at a1
     refine xN M S (Nat.le_of_lt ab) (fun j J G=>(c7 n j G (.inl ⟨a1,a0⟩) (by omega) (by omega)).1 J) (fun j J b3 G=> ?_)
     by_cases U:j=i
     ·rw [U];exact c1
     ·exact (c7 n j G (.inl ⟨a1,a0⟩) b3 U).2 (by omega)
    ·rcases b5 with b5 | b5
     ·exact ha n b7 a1 b5
     ·rcases b8 n b7 with a6 | ⟨j,J,N,a6,a7⟩
      ·have:=M.mono i (Nat.zero_le i) (by omega);omega
      ·have U:j≠i:=fun h=>by rw [h,c1] at N;cases N
       rcases Nat.lt_or_gt_of_ne U with Z | Z
       ·have:=M.mono i (show j+1≤i by omega) (by omega);omega
       ·have:=(S.MY i j Z J (c2 j J N) (by rw [en];exact b5)).2;omega
    ·refine xN M S (Nat.le_of_lt ab) (fun j J G=> ?_) (fun j J b3 G=> ?_)
     ·cases N:b j with
      | true=>rfl
      | false=>
       have a5:j ∉ c i:=fun ec=>by rw [ep j ec] at N;cases N
       exfalso
       rcases G with G | G
       ·exact S.Z5 j i J ab a5 (by rw [en];exact e2) n G
       ·rcases b8 n b7 with a6 | ⟨c6,hf,ey,a6,a7⟩
        ·have:=M.mono j (Nat.zero_le j) (by omega);omega
        ·have gf:c6≠j:=fun h=>by rw [h,N] at ey;cases ey
         rcases Nat.lt_or_gt_of_ne gf with Z | Z
         ·have:=M.mono j (show c6+1≤j by omega) (by omega);omega
         ·have:=M.mono c6 (show j+1≤c6 by omega) (by omega);omega
     ·cases N:b j with
      | false=>rfl
      | true=>
       exfalso
       have U:j≠i:=fun h=>by rw [h,c1] at N;cases N
       have Z:=S.MY i j (by omega) b3 (c2 j b3 N) (by rw [en];exact e2)
       rcases G with G | G
       ·exact Z.1 n G
       ·omega
  ·rw [I] at b1;cases b1
 ·rw [e5] at b1
  rcases c5 with ⟨I,_⟩ | ⟨_,rfl,e7,b0⟩
  ·rw [I] at b1;cases b1
  ·have g3:∀ n,¬ Wr Hs tcs i n:=by
    rintro n (I | I)
    ·rw [b0] at I;simp [Tch.ls] at I
    ·rw [e7] at I;omega
   have b4:cH Hs tcs b m=cH Hs tcs a4 m:=by funext n;exact (xO eb (g3 n) m).symm
   refine eu D α w undef (b4 ▸ dx) (fun n a1=> .inl a1) (b4 ▸ bB.refl _ _ _ _) rfl
theorem Yw {b:Nat→Bool} {a:Act} {w:World} (I:hZ P ops m Ts Hs tcs) (a5:pS m c Hs tcs) (a6:oh P B0 w0 F ops m Ts Hs tcs b a w) (a0:∀ j,j < m→b j=true):cv P B0 w0 F (Ts m) ((Hs m)[·]?) a w:=by
 obtain ⟨a3,D,α,Z,bD,a7,ab,U,a4⟩:=a6
 have a2:cH Hs tcs b m=((Hs m)[·]?):=by
  funext n
  exact xN I a5 (Nat.le_refl m) (fun j J _=>a0 j J) (fun j M N=>by omega)
 rw [a2] at Z ab U
 refine ⟨a3,D,α,Z, ?_,U,a4⟩
 refine ao.nG (by rw [Array.length_toList,a7,I.len m (Nat.le_refl _)]) (fun t v O=> ?_)
 have bx:t < (Ts 0).length:=by rw [← I.len m (Nat.le_refl _)];exact (List.getElem?_eq_some_iff.1 O).1
 obtain ⟨x,u,M,N,a1⟩:=ab t bx
 rw [Array.getElem?_toList]
 rcases a1 with ⟨j,_,_,_,G⟩ | ⟨G,S⟩
 ·rw [O] at G;cases G;exact ⟨x,M,N⟩
 ·rw [← I.yM m (Nat.zero_le _) (Nat.le_refl _) (i:=0) (fun j _ J=>G j J (a0 j J)),O] at S
  cases S
  exact ⟨x,M,N⟩
end
end Go.V
namespace Go.V
open Go Go.RowKit
section
variable {R : Type} {P : Program} {ro : Option Nat} {ops : Array Oper} {m : Nat} {c : Nat → List Nat}
theorem L9 {x:Cx R} (c1:eT x) (b6:x.P=P) (O:Order ops m c):∀ (l:List (Bool×Oper)) (d:Nat) (T:List AV) (H:Hp) (a2:Tl) (k:Lk R) (r:R),d+l.length=ops.size→m≤d→(∀ (j:Nat) (o:Bool×Oper),l[j]? =some o→ops[d+j]? =some o.2)→ln x ops l T H a2 k=some r→
  ∃ Z M a3,k Z M (a3 ++ a2)=some r∧H.length≤M.length∧(x.lo≤H.length→∀ q,q < x.lo→M[q]? =H[q]?)∧∀ (ro:Option Nat) (B0:Nat→Prop) (w0:World) (F:Fr) (Q:Exit→Act→World→Prop),w0.heap.size≤F.w.heap.size→F.n≤H.length→(∀ ab w',cv P B0 w0 F Z (M[·]?) ab w'→Q .normal ab w')→
   ∀ (listed:Array Bool) a w,listed.size=ops.size→(∀ j,j < ops.size→lb listed j=decide (j < d))→cv P B0 w0 F T (H[·]?) a w→wpAnyIn (W ro) 0 P .any ops Q l.length listed a w
 | [],d,T,H,a2,k,r,a6,eb,bD,h=> ⟨T,H, [],h,Nat.le_refl _,fun _ _ _=>rfl,fun ro B0 w0 F Q _ _ a5 listed a w U G b3=>by
   refine ⟨?_,a5 a w b3⟩
   cases b2:Region.ready .any ops listed with
   | nil=>rfl
   | cons i l=>
    obtain ⟨o,J,I,_⟩:=(u7 U i).1 (by rw [b2];exact List.mem_cons_self)
    have bx:=(Array.getElem?_eq_some_iff.1 J).1
    rw [G i bx,decide_eq_false_iff_not] at I
    simp at a6
    omega⟩
 | o :: l,d,T,H,a2,k,r,a6,eb,bD,h=>by
  unfold ln at h
  obtain ⟨v,et,ep,I,N⟩:=Cf c1 b6 h
  have ec:ops[d]? =some o.2:=bD 0 o rfl
  rw [List.length_cons] at a6
  obtain ⟨Z,M,a3,c2,c3,c4,c5⟩:=L9 c1 b6 O l (d+1) _ _ _ k r (by omega) (by omega) (fun j b4 a4=>by have:=bD (j+1) b4 (by simpa using a4);rwa [show d+(j+1)=d+1+j by omega] at this) I
  refine ⟨Z,M,a3 ++ [ep],by rw [List.append_assoc];exact c2,Nat.le_trans N.1 c3,fun ch q ct=>(c4 (Nat.le_trans ch N.1) q ct).trans (N.2.1 ch q ct),fun ro B0 w0 F Q c0 b8 a5 listed a w U G b3=> ?_⟩
  have a7:d < ops.size:=by omega
  obtain ⟨eo,ed,b7,_⟩:=O.tj d a7
  have dx:r5 ops (lb listed):=by
   intro j o J c8 e a0
   have a1:=(Array.getElem?_eq_some_iff.1 J).1
   obtain ⟨b4,S,I,_⟩:=O.tj j a1
   rw [J] at S
   cases S
   have:=I e a0
   rw [G j a1,decide_eq_true_eq] at c8
   rw [G e (by omega),decide_eq_true_eq]
   omega
  have eh:d ∈ Region.ready .any ops listed:=(u7 U d).2 ⟨eo,ed,by rw [G d a7];simp,fun e a0=>(G e (by have:=b7 e a0;omega)).trans (decide_eq_true (b7 e a0))⟩
  refine ⟨fun b2=>absurd (b2 ▸ eh) List.not_mem_nil,fun i bx=> ?_⟩
  obtain ⟨eu,J,I,c6⟩:=(u7 U i).1 bx
  have b0:=(Array.getElem?_eq_some_iff.1 J).1
  have dy:i=d:=by
   rw [G i b0,decide_eq_false_iff_not] at I
   rcases Nat.lt_or_ge d i with b5 | b5
   ·have a4:=O.tail i b0 (by omega) d b5
    have c7:=O.up dx i b0 (fun b4 S=>by rw [J] at S;cases S;exact c6) d a4
    rw [G d a7,decide_eq_true_eq] at c7
    omega
   ·omega
  subst dy
  refine LW ec N c0 b8 b3 (fun ab w' en=>c5 ro B0 w0 F Q c0 (Nat.le_trans b8 N.1) a5 _ ab w' (by rw [Array.size_setIfInBounds];exact U) (fun j a1=> ?_) en)
  rw [CL (by omega),G j a1]
  by_cases b1:j=i
  ·rw [if_pos b1];simp [b1]
  ·rw [if_neg b1];simp only [decide_eq_decide];omega
theorem Xn {n:Nat} {b:Nat→Bool} {k:Nat} (h:left n b=k+1):∃ i,i < n∧b i=false∧∀ j,j < i→b j=true:=by
 have S:∃ i,i < n∧b i=false:=by
  unfold left at h
  cases M:(List.range n).filter (fun j=> !b j) with
  | nil=>rw [M] at h;cases h
  | cons x r=>
   have J:x ∈ (List.range n).filter fun j=> !b j:=by rw [M];exact List.mem_cons_self
   rw [List.mem_filter,List.mem_range] at J
   exact ⟨x,J.1,by simpa using J.2⟩
 have ab:∀ k,(∃ i,i≤k∧i < n∧b i=false)→∃ i,i < n∧b i=false∧∀ j,j < i→b j=true:=by
  intro k
  induction k with
  | zero=>
   rintro ⟨i,U,G,I⟩
   exact ⟨i,G,I,fun j Z=>by omega⟩
  | succ k a0=>
   rintro ⟨i,U,G,I⟩
   by_cases N:∃ j,j≤k∧j < n∧b j=false
   ·exact a0 N
   ·refine ⟨i,G,I,fun j Z=> ?_⟩
    cases O:b j with
    | true=>rfl
    | false=>exact absurd ⟨j,by omega,by omega,O⟩ N
 obtain ⟨i,G,I⟩:=S
 exact ab i ⟨i,Nat.le_refl _,G,I⟩
theorem Xp {n:Nat} {b:Nat→Bool} (h:left n b=0):∀ j,j < n→b j=true:=by
 intro j I
 cases G:b j with
 | true=>rfl
 | false=>
  have:j ∈ (List.range n).filter fun j=> !b j:=List.mem_filter.2 ⟨List.mem_range.2 I,by simp [G]⟩
  unfold left at h
  rw [List.eq_nil_of_length_eq_zero h] at this
  cases this
variable {B0 : Nat → Prop} {w0 : World} {F : Fr} {Ts : Nat → List AV} {Hs : Nat → Hp} {tcs : Nat → Tch × Nat × Nat}
theorem Zi (I:Order ops m c) (c4:w0.heap.size≤F.w.heap.size) (b7:F.n≤(Hs 0).length) {Q:Exit→Act→World→Prop} (bx:hZ P ops m Ts Hs tcs) (a5:pS m c Hs tcs)
  (c3:∀ (listed:Array Bool) a w,listed.size=ops.size→(∀ j,j < ops.size→lb listed j=decide (j < m))→cv P B0 w0 F (Ts m) ((Hs m)[·]?) a w→wpAnyIn (W ro) 0 P .any ops Q (ops.size - m) listed a w):
  ∀ (G:Nat) (listed:Array Bool) (a:Act) (w:World),left m (lb listed)=G→listed.size=ops.size→r5 ops (lb listed)→(∀ d,m≤d→lb listed d=false)→oh P B0 w0 F ops m Ts Hs tcs (lb listed) a w→wpAnyIn (W ro) 0 P .any ops Q (G+(ops.size - m)) listed a w:=by
 intro G
 have c7:=I.le
 induction G with
 | zero=>
  intro listed a w Z J M a1 a0
  have a6:=Xp Z
  rw [Nat.zero_add]
  refine c3 listed a w J (fun j ch=> ?_) (Yw bx a5 a0 a6)
  by_cases h:j < m
  ·rw [a6 j h];simp [h]
  ·rw [a1 j (by omega)];simp [h]
 | succ G c5=>
  intro listed a w Z J M a1 a0
  obtain ⟨O,c6,a7,ct⟩:=Xn Z
  rw [show G+1+(ops.size - m)=(G+(ops.size - m))+1 by omega]
  refine ⟨fun c2=> ?_,fun i b8=> ?_⟩
  ·exfalso
   obtain ⟨o,N,ab,_⟩:=I.tj O (by omega)
   have:O ∈ Region.ready .any ops listed:=(u7 J O).2 ⟨o,N,a7,fun e h=>ct e (ab e h)⟩
   rw [c2] at this
   cases this
  ·obtain ⟨o,N,U,a3⟩:=(u7 J i).1 b8
   have b0:=(Array.getElem?_eq_some_iff.1 N).1
   have b1:=I.up M i b0 (fun b2 S=>by rw [N] at S;cases S;exact a3)
   have bD:i < m:=by
    rcases Nat.lt_or_ge i m with h | h
    ·exact h
    ·have a4:=b1 O (I.tail i b0 h O (by omega))
     rw [a7] at a4
     cases a4
   have a2:=CL (listed:=listed) (i:=i) (by omega)
   have b6:∀ j,j < m→lb listed j=true→i ∉ c j:=by
    intro j ch b4 c0
    have:=I.up M j (by omega) (fun b2 S e ab=>M j b2 S b4 e ab) i c0
    rw [U] at this
    cases this
   refine YA c4 b7 I bx a5 a0 bD b1 U b6 a2 (fun b3 w' c1=> ?_)
   refine c5 _ b3 w' ?_ (by rw [Array.size_setIfInBounds];exact J) (Sv J M N a3) (fun d b5=> ?_) c1
   ·have:=Xo bD U a2
    omega
   ·rw [a2 d,if_neg (by omega)]
    exact a1 d b5
theorem abF {T:List AV} {h:Hf} {a:Act} {w:World} (U:cv P B0 w0 F T h a w):cv P B0 w0 F T h a w.drew:=by
 obtain ⟨M,D,α,G,O,J,N⟩:=U
 have S:Below w.heap.size w w.drew:=Below.drew (Below.refl _ _)
 obtain ⟨I,j⟩:=oT G S
 exact ⟨M.mono G I j,D,α,I,ao.mono _ _ (j.keeps B0) O,J.trans j,N⟩
theorem Ws {x:Cx R} (b4:eT x) (a7:x.P=P) (en:P.follows .mixedOrders=true) {a5:Bool} {T:List AV} {H:Hp} {k:Cn R} {r:R} (h:DZ x ops a5 T H k=some r):
  ∃ M I,k .normal M I=some r∧H.length≤I.length∧(x.lo≤H.length→∀ q,q < x.lo→I[q]? =H[q]?)∧∀ (ro:Option Nat) (B0:Nat→Prop) (w0:World) (F:Fr) (Q:Exit→Act→World→Prop) (id:Nat),w0.heap.size≤F.w.heap.size→F.n≤H.length→(∀ b7 w',cv P B0 w0 F M (I[·]?) b7 w'→Q .normal b7 w')→
   ∀ a w,cv P B0 w0 F T (H[·]?) a w→(Code.region id ops a5).wpIn (W ro) 0 P Q a w:=by
 unfold DZ at h
 cases a5 with
 | false=>
  simp only [cond] at h
  obtain ⟨M,I,c5,O,S,a6,c6⟩:=Kw b4 a7 (ops.toList.map fun o=>(false,o)) (List.range ops.size) T H [] _ r (by simp) (fun G i o a0 j=>by
   rw [List.getElem?_map,Option.map_eq_some_iff] at j
   obtain ⟨ev,a3,rfl⟩:=j
   have eb:=List.getElem?_eq_some_iff.1 a0
   obtain ⟨ey,c0⟩:=eb
   rw [List.getElem_range] at c0
   subst c0
   rwa [Array.getElem?_toList] at a3) h
  exact ⟨M,I,O,S,a6,fun ro B0 w0 F Q id a4 ab bx a w b3=>wpIn_region (c6 ro B0 w0 F Q a4 ab a w b3 bx)⟩
 | true=>
  simp only [Bool.cond_eq_ite,if_true] at h
  split at h
  ·rename_i c8
   have bD:=Zb c8
   have ez:=bD.le
   have dx:jj ops=(jj ops).take (ca ops) ++ (jj ops).drop (ca ops):=(List.take_append_drop _ _).symm
   have b1:(jj ops).length=ops.size:=by unfold jj;rw [List.length_map,List.length_zipIdx,Array.length_toList]
   have ct:∀ (G:Nat) (o:Bool×Oper),(jj ops)[G]? =some o→ops[G]? =some o.2∧o.1=decide (G < ca ops):=by
    intro G o j
    unfold jj at j
    rw [List.getElem?_map,Option.map_eq_some_iff] at j
    obtain ⟨p,c2,rfl⟩:=j
    rw [List.getElem?_zipIdx,Option.map_eq_some_iff] at c2
    obtain ⟨ev,a3,rfl⟩:=c2
    rw [Array.getElem?_toList] at a3
    exact ⟨a3,by simp⟩
   rw [dx] at h
   obtain ⟨Ts,Hs,tcs,c4,N,Z,b8⟩:=NM b4 a7 ((jj ops).drop (ca ops)) ((jj ops).take (ca ops)) 0 T H [] _ r (fun G o j=>by
    have a0:G < ca ops:=by
     have:=(List.getElem?_eq_some_iff.1 j).1
     rw [List.length_take] at this
     omega
    rw [List.getElem?_take_of_lt a0] at j
    obtain ⟨O,S⟩:=ct G o j
    rw [Nat.zero_add]
    exact ⟨O,by rw [S];simpa using a0⟩) h
   have c1:((jj ops).take (ca ops)).length=ca ops:=by rw [List.length_take,b1];omega
   rw [c1,Nat.zero_add] at b8
   simp only [c1,Nat.zero_add] at Z
   have b0:hZ P ops (ca ops) Ts Hs tcs:= ⟨fun i J=>by
    obtain ⟨o,v,k1,b5,b6⟩:=Z i (Nat.zero_le _) J
    exact ⟨o,v,k1,b5,x.lo,b6⟩⟩
   obtain ⟨M,I,c5,k1,b5,b6,et⟩:=L9 b4 a7 bD ((jj ops).drop (ca ops)) (ca ops) _ _ _ _ r (by rw [List.length_drop,b1];omega) (Nat.le_refl _) (fun G o j=>by
    rw [List.getElem?_drop] at j
    exact (ct _ o j).1) b8
   split at k1
   ·rename_i eo
    have dy:∀ i,i < ca ops→(tcs i).2=((Hs i).length,(Hs (i+1)).length):=by
     intro i J
     obtain ⟨o,v,_,_,_,_,_,k⟩:=Z i (Nat.zero_le _) J
     rcases k with ⟨_,k,_⟩ | ⟨_,_,eu,k⟩
     ·exact k
     ·rw [k,eu]
    have c7:=QS (Hs:=Hs) (tcs:=tcs) (fun i J=>by
     rw [List.append_nil,List.reverse_append,List.reverse_reverse,List.getElem?_append_left (by simpa using J),List.getElem?_map,List.getElem?_range' J]
     simp) dy eo
    have a2:=b0.mono (i:=0) (ca ops) (Nat.zero_le _) (Nat.le_refl _)
    have ec:x.lo≤H.length→∀ i,i≤ca ops→∀ q,q < x.lo→(Hs i)[q]? =H[q]? :=by
     intro b2 i
     induction i with
     | zero=>intro _ q _;rw [N]
     | succ i ep=>
      intro J q U
      obtain ⟨o,v,_,_,_,k,_⟩:=Z i (Nat.zero_le _) (by omega)
      refine (k ?_ q U).trans (ep (by omega) q U)
      have:=b0.mono (i:=0) i (Nat.zero_le _) (by omega)
      rw [N] at this
      omega
    rw [N] at a2
    refine ⟨M,I,k1,Nat.le_trans a2 b5,fun b2 q U=>(b6 (Nat.le_trans b2 a2) q U).trans (ec b2 _ (Nat.le_refl _) q U),fun ro B0 w0 F Q id a4 ab bx a w b3=> ?_⟩
    have a1:∀ G,lb (Array.replicate ops.size false) G=false:=by
     intro G
     unfold lb
     rw [Array.getD_eq_getD_getElem?,Array.getElem?_replicate]
     split <;> rfl
    have c3:=abF b3
    rw [← c4,← N] at c3
    have eh:oh P B0 w0 F ops (ca ops) Ts Hs tcs (lb (Array.replicate ops.size false)) a w.drew:=Yz c3 a1
    refine wpIn_region_any en ?_
    have ed:left (ca ops) (lb (Array.replicate ops.size false))=ca ops:=by
     unfold left
     rw [List.filter_eq_self.2 (fun x _=>by rw [a1 x];rfl),List.length_range]
    have:=Zi bD a4 (by rw [N];exact ab) b0 c7 (fun listed a w O S a6=>by
     have:=et ro B0 w0 F Q a4 (Nat.le_trans ab a2) bx listed a w O S a6
     rwa [List.length_drop,b1] at this) (ca ops) (Array.replicate ops.size false) a w.drew ed (by simp) (fun d o _ ch=>by rw [a1 d] at ch;cases ch) (fun d _=>a1 d) eh
    rwa [show ca ops+(ops.size - ca ops)=ops.size by omega] at this
   ·cases k1
  ·cases h
end
end Go.V
namespace Go.V
open Go Go.RowKit
section
variable {P : Program} {D D1 : Nat → Prop} {α α1 : Nat → Nat × Nat} {B B1 : Nat → Prop} {w : World} {ρ : Nat → Nat} {r : List Nat}
theorem M0 (ρ:Nat→Nat):∀ l:List AV,(eQ ρ l).length=l.length
 | []=>rfl
 | v :: l=>by simp [eQ,M0 ρ l]
theorem CB:∀ {r:List Nat} {i:Nat},i ∈ r→r[idx r i]? =some i
 | [],i,h=>by simp at h
 | G :: l,i,h=>by
  unfold idx
  cases j:(G==i) with
  | true=>rw [beq_iff_eq] at j;subst j;rfl
  | false=>
   have:G≠i:=by simpa using j
   simp only [cond]
   rw [List.getElem?_cons_succ]
   exact CB ((List.mem_cons.1 h).resolve_left (fun e=>this e.symm))
theorem LD:∀ {r:List Nat},ya r=true→∀ {i j k:Nat},r[i]? =some k→r[j]? =some k→i=j
 | [],_,i,j,k,h,_=>by simp at h
 | a :: l,J,i,j,k,G,I=>by
  unfold ya at J
  rw [Bool.and_eq_true,Bool.not_eq_true',← Bool.not_eq_true,List.contains_iff_mem] at J
  cases i with
  | zero=>
   cases j with
   | zero=>rfl
   | succ j=>
    simp only [List.getElem?_cons_zero,Option.some.injEq] at G
    rw [List.getElem?_cons_succ] at I
    subst G
    exact absurd (List.mem_of_getElem? I) J.1
  | succ i=>
   cases j with
   | zero=>
    simp only [List.getElem?_cons_zero,Option.some.injEq] at I
    rw [List.getElem?_cons_succ] at G
    subst I
    exact absurd (List.mem_of_getElem? G) J.1
   | succ j=>
    rw [List.getElem?_cons_succ] at G I
    rw [LD J.2 G I]
theorem Ea (ρ:Nat→Nat) (b:bG):(yH ρ b).isLive=b.isLive∧(yH ρ b).jH=b.jH:=by
 cases b with
 | row c ty st=>cases st <;> exact ⟨rfl,rfl⟩
 | loop r=>exact ⟨rfl,rfl⟩
theorem xo (ρ:Nat→Nat) (c:aC):(c.D9 ρ).len=c.len:=by
 cases c with
 | cells l=>exact M0 ρ l
 | _=>rfl
theorem JY (U:∀ i ∈ r,D i→D1 (ρ i)∧α1 (ρ i)=α i) (O:∀ b,B1 b→B b) (c:aC) (j:List Value) (S:∀ i ∈ c.ids,i ∈ r) (h:ao P α B w c.a9 D j):ao P α1 B1 w (c.D9 ρ).a9 D1 j:=by
 have J:∀ (l:List AV),(∀ v ∈ l,∃ y,v= .val y)→∀ j,ao P α B w l D j→ao P α1 B1 w l D1 j:=by
  intro l
  induction l with
  | nil=>intro _ j h;exact h
  | cons v l Z=>
   intro I j h
   obtain ⟨y,zs,rfl,M,N⟩:=h
   obtain ⟨u,rfl⟩:=I v List.mem_cons_self
   exact ⟨y,zs,rfl,M,Z (fun v G=>I v (List.mem_cons_of_mem _ G)) zs N⟩
 cases c with
 | cells l=>exact mO U O l j S h
 | ints k zs=>exact J _ (fun v G=>by obtain ⟨z,_,rfl⟩:=List.mem_map.1 G;exact ⟨_,rfl⟩) j h
 | vals vs=>exact J _ (fun v G=>by obtain ⟨z,_,rfl⟩:=List.mem_map.1 G;exact ⟨_,rfl⟩) j h
variable {B0 : Nat → Prop} {w0 : World} {F : Fr}
theorem qI {keep:List Nat} {T:List AV} {G:List Value} (h:ao P α B w T D G):ao P α B w (cX keep T) D G:=by
 unfold cX
 refine ao.nG (by rw [ao.len h,List.length_mapIdx]) (fun i v j=> ?_)
 rw [List.getElem?_mapIdx,Option.map_eq_some_iff] at j
 obtain ⟨u,M,rfl⟩:=j
 obtain ⟨y,I,J⟩:=ao.get h M
 refine ⟨y,I, ?_⟩
 cases keep.contains i with
 | true=>exact J
 | false=>trivial
theorem NS {T:List AV} {H:Hp} (b1:qA r T H=true) (b4:∀ i,F.D i→r[i]? =some i) (c6:∀ i,i < F.n→r[i]? =some i) {a:Act} (h:Marks F.w.heap.size w a.defers∧∃ D α,Ok P B0 w0 D α (H[·]?) w∧ao P α (Own B0 D α (H[·]?)) w T D a.tmps.toList∧bB F.D D F.α α F.C (aQ D α (H[·]?)) F.w w∧∀ i,D i→i < F.n→F.D i):cv P B0 w0 F (eQ (idx r) T) ((eW r H)[·]?) a w:=by
 obtain ⟨c0,D,α,a2,c2,bx,c1⟩:=h
 unfold qA at b1
 simp only [Bool.and_eq_true,List.all_eq_true,List.contains_iff_mem] at b1
 obtain ⟨⟨c7,c3⟩,ct⟩:=b1
 have c4:∀ i ∈ r,∃ b,H[i]? =some b∧∀ G ∈ b.ids,G ∈ r:=by
  intro i j
  have:=ct i j
  split at this
  ·rename_i b M
   exact ⟨b,M,fun G a7=>List.contains_iff_mem.1 (List.all_eq_true.1 this G a7)⟩
  ·cases this
 let D1:Nat→Prop:=fun G=>∃ i,r[G]? =some i∧D i
 let α1:Nat→Nat×Nat:=fun G=>α ((r[G]?).getD 0)
 have ab:∀ {G i:Nat},r[G]? =some i→α1 G=α i:=by
  intro G i h
  show α ((r[G]?).getD 0)=α i
  rw [h]
  rfl
 have a4:∀ {G i:Nat},r[G]? =some i→∃ b,H[i]? =some b∧(∀ G ∈ b.ids,G ∈ r)∧(eW r H)[G]? =some (yH (idx r) b):=by
  intro G i h
  obtain ⟨b,M,I⟩:=c4 i (List.mem_of_getElem? h)
  refine ⟨b,M,I, ?_⟩
  unfold eW
  rw [List.getElem?_map,h]
  simp [M]
 have b0:∀ i ∈ r,D i→D1 (idx r i)∧α1 (idx r i)=α i:=fun i j S=> ⟨⟨i,CB j,S⟩,ab (CB j)⟩
 have b2:∀ b,aQ D1 α1 ((eW r H)[·]?) b→aQ D α (H[·]?) b:=by
  rintro b ⟨G,k, ⟨i,j,S⟩,J,I,O⟩
  obtain ⟨dy,a0,_,a1⟩:=a4 j
  have N:(eW r H)[G]? =some k:=J
  rw [a1] at N
  cases N
  rw [(Ea _ _).1] at I
  rw [ab j] at O
  exact ⟨i,dy,S,a0,I,O⟩
 have a6:∀ b,Own B0 D1 α1 ((eW r H)[·]?) b→Own B0 D α (H[·]?) b:=fun b h=>h.elim .inl (fun h=> .inr (b2 b h))
 refine ⟨c0,D1,α1, ⟨?_,a2.below,a2.cJ,fun b M bD=>a2.sep b M (b2 b bD), ?_, ?_, ?_, ?_⟩,mO b0 a6 T _ (fun i j=>c3 i j) c2, ⟨fun i j=> ⟨i,b4 i j,bx.le i j⟩,fun i j=>(ab (b4 i j)).trans (bx.same i j),fun b o J I=> ⟨fun h=>(bx.block b o J I).1 (b2 b h),(bx.block b o J I).2⟩⟩,fun i c5 j=>by
  obtain ⟨ec,J,I⟩:=c5
  rw [c6 i j] at J
  cases J
  exact c1 i I j⟩
 ·rintro G ⟨i,j,S⟩
  obtain ⟨b,_,_,e⟩:=a4 j
  exact ⟨_,e⟩
 ·rintro G ⟨i,j,S⟩
  rw [ab j]
  exact a2.fresh i S
 ·rintro i G k l ⟨c8,j,b8⟩ ⟨dx,a7,ch⟩ J I O U Z
  obtain ⟨a3,a0,_,a1⟩:=a4 j
  obtain ⟨b5,a5,_,b6⟩:=a4 a7
  have N:(eW r H)[i]? =some k:=J
  have b3:(eW r H)[G]? =some l:=I
  rw [a1] at N
  rw [b6] at b3
  cases N
  cases b3
  rw [(Ea _ _).1] at O U
  rw [ab j,ab a7] at Z
  have:=a2.inj c8 dx a3 b5 b8 ch a0 a5 O U Z
  subst this
  exact LD c7 j a7
 ·rintro G k ⟨i,j,S⟩ J I bD
  obtain ⟨a3,a0,_,a1⟩:=a4 j
  have N:(eW r H)[G]? =some k:=J
  rw [a1] at N
  cases N
  rw [(Ea _ _).2] at I
  rw [ab j] at bD
  exact a2.cV i a3 S a0 I (a6 _ bD)
 ·rintro G k ⟨i,j,S⟩ J
  obtain ⟨a3,a0,a5,a1⟩:=a4 j
  have N:(eW r H)[G]? =some k:=J
  rw [a1] at N
  cases N
  rw [ab j]
  have M:=a2.cN i a3 S a0
  cases a3 with
  | row c ty st=>
   cases st with
   | dead=>exact .inl rfl
   | live=>
    rcases M with M | ⟨cs,fr,J,I,O,U,Z⟩
    ·cases M
    ·exact .inr ⟨cs,fr,J,I,O,by rw [xo];exact U,by rw [xo];exact JY b0 a6 c _ (fun i j=>a5 i j) Z⟩
   | froz=>
    rcases M with M | ⟨cs,fr,J,I,O,U,Z⟩
    ·cases M
    ·exact .inr ⟨cs,fr,J,I,O,by rw [xo];exact U,by rw [xo];exact JY b0 a6 c _ (fun i j=>a5 i j) Z⟩
  | loop eb=>
   obtain ⟨L,J,I,O,U,Z,b7⟩:=M
   exact ⟨L,J,I,O,U,Z,mO b0 a6 eb.T _ (fun i j=>a5 i j) b7⟩
theorem NR {T:List AV} {H:Hp} (I:qA r T H=true) (G:∀ i,¬ F.D i) (J:F.n=0) {a:Act} (h:Marks F.w.heap.size w a.defers∧∃ D α,Ok P B0 w0 D α (H[·]?) w∧ao P α (Own B0 D α (H[·]?)) w T D a.tmps.toList∧bB F.D D F.α α F.C (aQ D α (H[·]?)) F.w w∧∀ i,D i→i < F.n→F.D i):cv P B0 w0 F (eQ (idx r) T) ((eW r H)[·]?) a w:=
 NS I (fun i j=>absurd j (G i)) (fun i j=>by omega) h
theorem x5 (keep:List Nat) (b:bG):(oR keep b).isLive=b.isLive∧(oR keep b).jH=b.jH:=by cases b <;> exact ⟨rfl,rfl⟩
theorem x6 (keep:List Nat) (H:Hp) (i:Nat):(iF keep H)[i]? =(H[i]?).map (oR keep):=List.getElem?_map
theorem Yu (keep:List Nat) (H:Hp) (D:Nat→Prop) (α:Nat→Nat×Nat):aQ D α ((iF keep H)[·]?)=aQ D α (H[·]?):=by
 funext b
 refine propext ⟨?_, ?_⟩
 ·rintro ⟨i,k,I,j,G,J⟩
  have j:(iF keep H)[i]? =some k:=j
  rw [x6,Option.map_eq_some_iff] at j
  obtain ⟨M,N,rfl⟩:=j
  rw [(x5 keep M).1] at G
  exact ⟨i,M,I,N,G,J⟩
 ·rintro ⟨i,k,I,j,G,J⟩
  have j:H[i]? =some k:=j
  exact ⟨i,oR keep k,I,by show (iF keep H)[i]? =_;rw [x6,j];rfl,by rw [(x5 keep k).1];exact G,J⟩
theorem abG {keep:List Nat} {T:List AV} {H:Hp} {a:Act} (h:cv P B0 w0 F T (H[·]?) a w):cv P B0 w0 F T ((iF keep H)[·]?) a w:=by
 obtain ⟨a5,D,α,G,a7,a4,a6⟩:=h
 have S:=Yu keep H D α
 have U:Own B0 D α ((iF keep H)[·]?)=Own B0 D α (H[·]?):=by unfold Own;rw [S]
 have N:∀ {i:Nat} {k:bG},((iF keep H)[·]?) i=some k→∃ j,H[i]? =some j∧k=oR keep j:=by
  intro i k h
  have h:(iF keep H)[i]? =some k:=h
  rw [x6,Option.map_eq_some_iff] at h
  obtain ⟨j,Z,rfl⟩:=h
  exact ⟨j,Z,rfl⟩
 refine ⟨a5,D,α, ⟨?_,G.below,G.cJ,by rw [S];exact G.sep,G.fresh, ?_, ?_, ?_⟩,by rw [U];exact a7,by rw [S];exact a4,a6⟩
 ·intro i I
  obtain ⟨k,ab⟩:=G.lt i I
  have ab:H[i]? =some k:=ab
  exact ⟨oR keep k,by show (iF keep H)[i]? =_;rw [x6,ab];rfl⟩
 ·intro i bD k l I bx M O a0 a1 Z
  obtain ⟨j,J,rfl⟩:=N M
  obtain ⟨b0,a3,rfl⟩:=N O
  rw [(x5 _ _).1] at a0 a1
  exact G.inj i bD j b0 I bx J a3 a0 a1 Z
 ·intro i k I M O
  obtain ⟨j,J,rfl⟩:=N M
  rw [(x5 _ _).2] at O
  rw [U]
  exact G.cV i j I J O
 ·intro i k I M
  obtain ⟨j,J,rfl⟩:=N M
  rw [U]
  have a2:=G.cN i j I J
  cases j with
  | row c ty st=>exact a2
  | loop r=>
   obtain ⟨L,b1,b2,b3,b4,b5,b6⟩:=a2
   exact ⟨L,b1,b2,b3,b4,b5,qI b6⟩
theorem Cr {fb:Nat} {r:List Nat} (h:xJ fb r=true):∀ i,i < fb→r[i]? =some i:=by
 intro i j
 have:=List.all_eq_true.1 h i (List.mem_range.2 j)
 split at this
 ·rename_i I G
  rw [beq_iff_eq] at this
  subst this
  exact G
 ·cases this
theorem NT {fb:Nat} {keep:List Nat} {T:List AV} {H:Hp} (U:qA r (cX keep T) (iF keep H)=true) (j:xJ fb r=true) (Z:F.n≤fb) (I:∀ i,F.D i→i < fb) {a:Act} (h:cv P B0 w0 F T (H[·]?) a w):cv P B0 w0 F (eQ (idx r) (cX keep T)) ((eW r (iF keep H))[·]?) a w:=by
 obtain ⟨M,D,α,O,S,J,N⟩:=abG (keep:=keep) h
 exact NS U (fun i G=>Cr j i (I i G)) (fun i G=>Cr j i (by omega)) ⟨M,D,α,O,qI S,J,N⟩
theorem WI {fb:Nat} {H:Hp} (j:xJ fb r=true):fb≤(eW r H).length:=by
 unfold eW
 rw [List.length_map]
 refine Nat.le_of_not_lt fun G=> ?_
 have:=Cr j r.length G
 rw [List.getElem?_eq_none (Nat.le_refl _)] at this
 cases this
end
section
variable {Fn : Fence} {n : Nat} {P : Program} {Q : Exit → Act → World → Prop} {a : Act} {w : World}
theorem rp {b:Frame} {k:List Item} {cs:List Frame} {c:Code} :step P (lone (b.atR a (.code (.scope c) :: k)) cs w)= .next (lone (b.atR a (.code c :: .inScope c :: k)) cs w):=
 step_lone_go (by simp [stepG,stepG.exec,Frame.atR])
theorem ab1 {b:Frame} {k:List Item} {cs:List Frame} {c:Code} :step P (lone (b.atR a (.inScope c :: k)) cs w)= .next (lone (b.atR a k) cs w):=
 step_lone_go (by simp [stepG,stepG.exec,Frame.atR])
theorem aeo {c:Code} (h:c.wpIn Fn n P (Exit.noGoto Q) a w):(Code.scope c).wpIn Fn n P Q a w:=by
 intro b k cs a1 N S
 have j:(lone (b.atR a (.code (.scope c) :: k)) cs w).fenced P Fn:=fenced_calm N S rfl
 obtain ⟨e,J,M,I,G⟩:=h b (.inScope c :: k) cs a1 N S
 have U:∀ id,exitTo id (.inScope c :: k)=exitTo id k:=fun id=>by simp [exitTo]
 cases e with
 | normal=>exact ⟨.normal,J,M,I, .head j rp (StepsIn.trans G (.one (fenced_calm N S rfl) ab1))⟩
 | exit id=>
  exact ⟨.exit id,J,M,I,fun a2 O=> .head j rp (G.1 a2 (by rw [U];exact O)),
   fun a0 O=>let ⟨a3,Z,ab⟩:=G.2 a0 (by rw [U];exact O); ⟨a3,Z, .head j rp ab⟩⟩
 | goto l=>exact I.elim
 | ret=>exact ⟨_,J,M,I, .of_steps (.one j rp) G⟩
 | panic a4=>exact ⟨_,J,M,I, .of_steps (.one j rp) G⟩
 | outgrown=>exact ⟨_,J,M,I, .of_steps (.one j rp) G⟩
theorem least {p:Nat→Prop} :∀ n,p n→∃ n,p n∧∀ m,m < n→¬ p m:=by
 intro n
 induction n using Nat.strongRecOn with
 | _ n J=>
  intro I
  by_cases h:∃ m,m < n∧p m
  ·obtain ⟨m,j,G⟩:=h
   exact J m j G
  ·exact ⟨n,I,fun m j G=>h ⟨m,j,G⟩⟩
theorem aen {O:Code} (j:Nat→Act→World→Prop) (a0:∀ G a w,j G a w→O.wpIn Fn n P (Exit.then (fun N w'=>∃ m,m < G∧j m N w') Q) a w) {G:Nat} (h:j G a w):(Code.loop O).wpIn Fn n P Q a w:=by
 classical
 let M:Act→World→Nat:=fun a w=>if h:∃ n,j n a w∧∀ m,m < n→¬ j m a w then h.choose else 0
 have Z:∀ n a w,j n a w→j (M a w) a w∧M a w≤n:=by
  intro n a w J
  have I:=least (p:=fun n=>j n a w) n J
  have e:M a w=I.choose:=dif_pos I
  rw [e]
  refine ⟨I.choose_spec.1, ?_⟩
  rcases Nat.lt_or_ge n I.choose with h | h
  ·exact absurd J (I.choose_spec.2 n h)
  ·exact h
 refine wpIn_loop (fun a w=>∃ n,j n a w) M ⟨G,h⟩ ?_
 rintro a w ⟨n,J⟩
 refine wpIn_mono (a0 _ a w (Z n a w J).1) ?_
 intro e N w' U
 cases e with
 | normal=>
  obtain ⟨G,ab,S⟩:=U
  exact ⟨⟨G,S⟩,Nat.lt_of_le_of_lt (Z G N w' S).2 ab⟩
 | _=>exact U
end
section
variable {R : Type} {P : Program}
structure Ends (P:Program) (rd:Bool) (fb lo:Nat) (c:Code) (T:List AV) (H:Hp) (e:Ex) (T':List AV) (H':Hp):Prop where
 len:fb≤H'.length
 keep:∀ q,q < lo→H'[q]? =H[q]?
 wp:∀ ro:Option Nat,(rd=false→ro=none)→∀ (B0:Nat→Prop) (w0:World) (F:Fr) (Q:Exit→Act→World→Prop),w0.heap.size≤F.w.heap.size→F.n≤fb→(∀ i,F.D i→i < fb)→(∀ a' w',cv P B0 w0 F T' (H'[·]?) a' w'→Q e.to a' w')→
  ∀ a w,cv P B0 w0 F T (H[·]?) a w→c.wpIn (W ro) 0 P Q a w
inductive kF (P:Program) (rd:Bool) (fb lo:Nat) (c:Code) (e:Ex) (T':List AV) (H':Hp):Nat→List AV→Hp→Prop
 | last {T H} :Ends P rd fb lo c T H e T' H'→e≠ .normal→kF P rd fb lo c e T' H' 0 T H
 | more {n T H T1 H1} :Ends P rd fb lo c T H .normal T1 H1→kF P rd fb lo c e T' H' n T1 H1→kF P rd fb lo c e T' H' (n+1) T H
theorem kF.len {rd:Bool} {fb lo:Nat} {c:Code} {e:Ex} {J:List AV} {j:Hp} {n:Nat} {T:List AV} {H:Hp} (h:kF P rd fb lo c e J j n T H):fb≤j.length∧∀ q,q < lo→j[q]? =H[q]? :=by
 induction h with
 | last h _=>exact ⟨h.len,h.keep⟩
 | more h _ I=>exact ⟨I.1,fun q G=>(I.2 q G).trans (h.keep q G)⟩
theorem kF.ends {rd:Bool} {fb lo:Nat} {c:Code} {e:Ex} {I:List AV} {G:Hp} {n:Nat} {T:List AV} {H:Hp} (h:kF P rd fb lo c e I G n T H):Ends P rd fb lo (.loop c) T H e I G:=by
 refine ⟨h.len.1,h.len.2,fun ro S B0 w0 F Q U O N Z a w j=> ?_⟩
 refine aen (fun n a w=>∃ T H,kF P rd fb lo c e I G n T H∧cv P B0 w0 F T (H[·]?) a w) ?_ ⟨T,H,h,j⟩
 rintro n a w ⟨T,H,h,j⟩
 cases h with
 | last h ab=>
  refine h.wp ro S B0 w0 F _ U O N (fun M w' J=> ?_) a w j
  have:=Z M w' J
  cases e with
  | normal=>exact absurd rfl ab
  | _=>exact this
 | more h h'=>exact h.wp ro S B0 w0 F _ U O N (fun M w' J=> ⟨_,Nat.lt_succ_self _,_,_,h',J⟩) a w j
theorem Lp {rd:Bool} {fb lo:Nat} {c:Code} {O:List AV→Hp→Cn R→Option R} (S:∀ T H k r,fb≤H.length→O T H k=some r→∃ e G j,k e G j=some r∧Ends P rd fb lo c T H e G j):∀ (n:Nat) (T:List AV) (H:Hp) (k:Cn R) (r:R),fb≤H.length→tF O n T H k=some r→∃ e G j m,k e G j=some r∧kF P rd fb lo c e G j m T H
 | 0,T,H,k,r,U,h=>by cases h
 | n+1,T,H,k,r,U,h=>by
  obtain ⟨e,M,J,N,I⟩:=S T H _ r U h
  cases e with
  | normal=>
   obtain ⟨e,G,j,m,Z,ab⟩:=Lp S n M J k r I.len N
   exact ⟨e,G,j,m+1,Z, .more I ab⟩
  | exit id=>exact ⟨_,M,J,0,N, .last I (by intro h;cases h)⟩
  | ret=>exact ⟨_,M,J,0,N, .last I (by intro h;cases h)⟩
end
end Go.V
namespace Go.V
open Go Go.RowKit
section
variable {R : Type} {P : Program} {B0 : Nat → Prop} {w0 : World} {D : Nat → Prop} {α : Nat → Nat × Nat} {h : Hf} {w : World}
theorem Ez (H:Hp) {i:Nat} (G:i < H.length) (k:bG):((H.set i k)[·]?)=bd (H[·]?) i (some k):=by
 funext m
 unfold bd
 by_cases j:m=i
 ·subst j;rw [if_pos rfl];exact List.getElem?_set_self G
 ·rw [if_neg j];exact List.getElem?_set_ne (fun e=>j e.symm)
theorem Zz (H:Hp) (k:bG):((H ++ [k])[·]?)=bd (H[·]?) H.length (some k):=by
 funext m
 unfold bd
 by_cases j:m=H.length
 ·subst j;rw [if_pos rfl];simp
 ·rw [if_neg j]
  by_cases G:m < H.length
  ·exact List.getElem?_append_left G
  ·show (H ++ [k])[m]? =H[m]?
   rw [List.getElem?_eq_none (by simp;omega),List.getElem?_eq_none (by omega)]
theorem Js {B l:Nat} (w:World) (o:Obj) (h:B≤l):Below B w (w.putObj l o):= ⟨rfl,rfl,rfl,by simp,fun k j=>World.putObj_heap_other (by omega)⟩
theorem CR (O:Ok P B0 w0 D α h w) {i:Nat} (S:D i) {j:Rec} (G:h i=some (.loop j)) (st:LoopState) (bN:Option Jump):
  ∃ L,w.heap[(α i).1]? =some (.loop L)∧L.state=j.st∧L.pending=j.bN.map Jump.code∧L.params=j.params∧(∃ f ps,aJ P j.g j.path=some (.rangeFunc f ps L.assign L.body))∧ao P α (Own B0 D α h) w j.T D L.tmps.toList∧
   Ok P B0 w0 D α (bd h i (some (.loop { j with st:=st,bN:=bN }))) (w.putObj (α i).1 (.loop { L with state:=st,pending:=bN.map Jump.code }))∧
   bB D D α α (aQ D α h) (aQ D α (bd h i (some (.loop { j with st:=st,bN:=bN })))) w (w.putObj (α i).1 (.loop { L with state:=st,pending:=bN.map Jump.code })):=by
 obtain ⟨L,I,U,Z,J,M,N⟩:=O.cN i _ S G
 refine ⟨L,I,U,Z,J,M,N, ?_⟩
 exact C5 O S G rfl rfl (by simp) (fun b a0=>World.putObj_heap_other a0) (fun B ab=>Js w _ ab) (fun a1=> ⟨_,World.putObj_heap_same (Array.getElem?_eq_some_iff.1 I).1,rfl,rfl,J,M,ao.mono _ _ a1 N⟩)
theorem WC {j:AV} {g:FuncId} {a b:List AV} (h:funcOf j=some (g,a,b)):j= .clo (.func g) a b∨∃ x y:Array Value,j= .val (.func (.func g) x y)∧a=x.toList.map gy∧b=y.toList.map gy:=by
 unfold funcOf at h
 split at h
 ·cases h;exact .inl rfl
 ·cases h;exact .inr ⟨_,_,rfl,rfl,rfl⟩
 ·cases h
theorem Marks.push {n:Nat} {w G:World} {ds:List Deferred} (N:Marks n w ds) (Z:w.heap.size≤G.heap.size) (U:∀ r:Nat,w.heap[r]? =some (Obj.deferred (some []))→G.heap[r]? =some (Obj.deferred (some []))) (S:G.heap[w.heap.size]? =some (Obj.deferred (some []))):Marks n G ([{ target:= .collected w.heap.size,args:= #[] }] ++ ds):=by
 obtain ⟨J,ab,rfl,M,I⟩:=N
 refine ⟨Nat.le_trans J Z,w.heap.size :: ab,rfl,List.nodup_cons.2 ⟨fun O=> ?_,M⟩,fun r j=> ?_⟩
 ·have:=(Array.getElem?_eq_some_iff.1 (I _ O).2).1
  omega
 ·rcases List.mem_cons.1 j with rfl | j
  ·exact ⟨J,S⟩
  ·exact ⟨(I r j).1,U r (I r j).2⟩
def rf (p:Option Jump):Ex:=match p with | none=> .normal | some .ret=> .ret | some (.exit n)=> .exit n
theorem ZW {i:Nat} {T:List AV} {k:Cn R} {v:AV} {I:Hp} {r:R} (h:DU i T k v I=some r):∃ j,I[i]? =some (.loop j)∧j.st≠ .busy∧k (rf j.bN) T (I.set i (.loop { j with st:= .exhausted }))=some r:=by
 unfold DU at h
 simp only [Bool.cond_eq_ite] at h
 split at h
 ·rename_i j M
  split at h
  ·cases h
  ·rename_i J
   refine ⟨j,M,fun e=>J (by rw [e];rfl), ?_⟩
   split at h
   ·rename_i G;rw [show rf j.bN= .normal by rw [G];rfl];exact h
   ·rename_i G;rw [show rf j.bN= .ret by rw [G];rfl];exact h
   ·rename_i n G;rw [show rf j.bN= .exit n by rw [G];rfl];exact h
 ·cases h
theorem ZX {x:Cx R} (g1:eT x) {f:Operand} {ps:Array Tmp} {assign body:Code} {p:List Bool} (fc:aJ x.P x.g p=some (.rangeFunc f ps assign body)) {T:List AV} {H:Hp} {k:Cn R} {r:R} (h:DT x f ps p T H k=some r) (g6:x.fb≤H.length) (g8:x.lo≤x.fb):
  ∃ e b5 b4,k e b5 b4=some r∧Ends x.P x.rd x.fb x.lo (.rangeFunc f ps assign body) T H e b5 b4:=by
 unfold DT at h
 simp only [Bool.cond_eq_ite] at h
 split at h
 ·cases h
 ·rename_i b0
  have b0:x.rd=false:=by simpa using b0
  split at h
  ·rename_i q j
   obtain ⟨a0,dy,eb⟩:=q
   simp only at h
   split at h
   ·rename_i G
    obtain ⟨v,Z,ec,b6,a1,ed⟩:=g1.cf _ _ _ _ _ _ G h
    obtain ⟨b2,c7,c8,dx⟩:=ZW ec
    rw [List.length_append] at b6 a1
    simp only [List.length_singleton] at b6 a1
    have e6:H.length < Z.length:=by omega
    refine ⟨_,_,_,dx, ⟨by rw [List.length_set];omega,fun q j=> ?_,fun ro b1 B0 w0 F Q ha g7 g5 ev a w fv=> ?_⟩⟩
    ·rw [List.getElem?_set_ne (by omega),a1 (by omega) q j,List.getElem?_append_left (by omega)]
    ·have b1:=b1 b0
     subst b1
     obtain ⟨eo,D,α,ct,a4,en,et⟩:=fv
     refine wpIn_rangeFunc (fun fn _=> ?_)
     have a6:(aA T f).Rel x.P α (Own B0 D α (H[·]?)) w D (a.eval f):=tq f (fun d _=>ao.slot a4 d)
     obtain ⟨c4,c5,a6,fh,fs⟩:=Co (WC j) a6
     have e0:Below w.heap.size w (w.alloc (.deferred (some []))):=(Below.refl _ _).alloc (Nat.le_refl _) _
     obtain ⟨eu,b7⟩:=oT ct e0
     have N:(w.alloc (.deferred (some []))).heap.size=w.heap.size+1:=by rw [World.size_alloc]
     have fa:¬ D H.length:=fun e2=>by obtain ⟨k,bx⟩:=ct.lt _ e2;have:=(List.getElem?_eq_some_iff.1 bx).1;omega
     obtain ⟨U,a2⟩:=C4 eu (n:=H.length) fa (o:= .loop { state:= .ready,pending:=none,fn,tmps:=a.tmps,params:=ps,assign,body,defers:=w.heap.size }) (fun ds=>by intro e;cases e) (k:= .loop { T:=T,params:=ps,g:=x.g,path:=p,st:= .ready,bN:=none }) rfl (sz:=0) (fun D' α' B' w' bx gn=>
      ⟨_,gn,rfl,rfl,rfl, ⟨f,ps,fc⟩,ao.mono _ _ bx (ao.mono _ _ (b7.keeps B0) a4)⟩)
     rw [← Zz] at U a2
     obtain ⟨I,a5⟩:∃ I:World,I=((w.alloc (Obj.deferred (some []))).alloc (Obj.loop { state:= .ready,pending:=none,fn,tmps:=a.tmps,params:=ps,assign,body,defers:=w.heap.size })):= ⟨_,rfl⟩
     rw [← a5] at U a2
     have b8:=b7.trans a2
     have c0:=b8.keeps B0
     have ey:ao x.P (eG α H.length ((w.alloc (.deferred (some []))).heap.size,0)) (Own B0 (fj D H.length) (eG α H.length ((w.alloc (.deferred (some []))).heap.size,0)) ((H ++ [bG.loop { T:=T,params:=ps,g:=x.g,path:=p,st:= .ready,bN:=none }])[·]?)) I
       (dy ++ [.yld H.length] ++ eb) (fj D H.length) (c4 ++ #[Value.func (.yield (w.heap.size+1)) #[] #[]] ++ c5).toList:=by
      rw [Array.toList_append,Array.toList_append]
      refine ao.append (ao.append (ao.mono _ _ c0 fh) ⟨_, [],rfl, ⟨.inr rfl, ?_⟩,rfl⟩) (ao.mono _ _ c0 fs)
      rw [eH,N]
     have e1:=ed B0 w0 _ _ _ _ U ey
     refine ⟨w.heap.size+1, [{ target:= .collected w.heap.size,args:= #[] }],I, { target:= .fn (.func a0) c5,args:=c4 ++ #[Value.func (.yield (w.heap.size+1)) #[] #[]] },I,a0,_,I,by rw [a5];exact run_enterLoop_outer fn a.tmps ps assign body, ?_,fun g4 _=>trivial, ?_,(fun h=>by cases h),e1.mono ?_⟩
     ·simp only [resolve,a6,Deferred.ofValue,Sem.run_pure,List.map_toArray,List.map_cons,List.map_nil]
      rfl
     ·unfold fH at G
      cases a7:x.P.funcs[a0]? with
      | none=>rw [a7] at G;cases G
      | some ab=>
       rw [a7] at G
       simp only [Bool.and_eq_true,Bool.not_eq_true',beq_eq_false_iff_ne] at G
       have ez:ab.body.isNone=false:=by
        cases eN:ab.body with
        | none=>rw [eN] at G;simp at G
        | some c=>rfl
       have e7 : (ab.name == "runtime.NumGoroutine") = false := by simpa using G.2
       simp only [invoke,callFunc,Sem.run_bind,run_program,Result.andThen,a7,e7,ez,Bool.false_eq_true,if_false,Sem.run_pure]
     ·rintro e w3 ⟨y,b3,c6,rfl,a3,eh,S,_⟩
      have e3:b3 H.length:=S.le _ (.inr rfl)
      have g2:(c6 H.length).1=w.heap.size+1:=by rw [S.same _ (.inr rfl),eH,N]
      obtain ⟨L,l1,l2,c3,hb,hc,hd,M,J⟩:=CR a3 e3 c7 .exhausted b2.bN
      rw [← Ez Z e6] at M J
      rw [g2] at l1 M J
      have e4:=run_endLoop (P:=x.P) l1 (by rw [l2];exact c8)
      rw [← c3] at M J
      refine ⟨L.pending,_,e4, ?_⟩
      have ch:=(b8.trans S).trans J
      have ep:Marks F.w.heap.size I ([{ target:= .collected w.heap.size,args:= #[] }] ++ a.defers):=by
       rw [a5]
       refine eo.push (by rw [World.size_alloc,N];omega) (fun r c2=> ?_) ?_
       ·have bD:=(Array.getElem?_eq_some_iff.1 c2).1
        rw [Below.heap_alloc _ _ _ (by rw [N];omega),Below.heap_alloc _ _ _ bD];exact c2
       ·rw [Below.heap_alloc _ _ _ (by rw [N];omega)];exact World.alloc_heap_new w _
      have gf:cv x.P B0 w0 F T ((Z.set H.length (.loop { b2 with st:= .exhausted }))[·]?) { a with defers:= [{ target:= .collected w.heap.size,args:= #[] }] ++ a.defers } (w3.putObj (w.heap.size+1) (.loop { L with state:= .exhausted })):=by
       refine ⟨(ep.mono U a3 S).mono a3 M J,b3,c6,M,ao.mono _ _ (ch.keeps B0) a4,en.trans ch,fun i e5 bD=> ?_⟩
       rcases eh i e5 with (O | O) | O
       ·exact et i O bD
       ·omega
       ·rw [List.length_append] at O;omega
      have j:=ev _ _ gf
      rw [c3] at j ⊢
      cases c1:b2.bN with
      | none=>rw [c1] at j;exact j
      | some g3=>
       rw [c1] at j
       cases g3 with
       | ret=>exact wpIn_ret j
       | exit n=>exact wpIn_exit j
   ·cases h
  ·cases h
def cL (P:Program) (E:Env):Prop:=∀ g n p s T H e G j,E.L g n p=some s→s.2 T H=some (true,e,G,j)→∃ I,aJ P g p=some (.loop I)∧Ends P false n 0 (.loop I) T H e G j
theorem FQ {R:Type} {q:Option (Bool×Ex×List AV×Hp)} {k:Cn R} {r:R} (h:vK q k=some r):∃ e G j,q=some (true,e,G,j)∧k e G j=some r:=by
 unfold vK at h
 split at h
 ·rename_i J
  obtain ⟨M,e,G,j⟩:=J
  simp only [Bool.cond_eq_ite] at h
  split at h
  ·rename_i I
   subst I
   exact ⟨e,G,j,rfl,h⟩
  ·cases h
 ·cases h
theorem Ky {T:List AV} {c:Operand} {b:Bool} (h:aA T c= .val (.bool b)):Ck T c b=T:=by
 cases c with
 | tmp d=>exact fix_eq h
 | _=>rfl
theorem mX {P:Program} {g:FuncId} {p:List Bool} {c c':Code} {b:Bool} (h:aJ P g p=some c) (j:child b c=some c'):aJ P g (b :: p)=some c':=by
 show (aJ P g p).bind (child b)=some c'
 rw [h]
 exact j
theorem qw {x:Cx R} (dx:eT x) (ch:cL x.P x.E) (ec:x.P.follows .mixedOrders=true):∀ (c:Code) (p:List Bool),aJ x.P x.g p=some c→∀ (T:List AV) (H:Hp) (k:Cn R) (r:R),exec x c p T H k=some r→x.fb≤H.length→x.lo≤x.fb→
  ∃ e S O,k e S O=some r∧Ends x.P x.rd x.fb x.lo c T H e S O:=by
 intro c
 induction c with
 | skip=>intro p ab T H k r h Z a1;exact ⟨.normal,T,H,h, ⟨Z,fun _ _=>rfl,fun ro U B0 w0 F Q N M J I a w j=>wpIn_skip (I a w j)⟩⟩
 | region id ops eo=>
  intro p ab T H k r h Z a1
  obtain ⟨S,O,a0,G,b7,bx⟩:=Ws dx rfl ec h
  exact ⟨.normal,S,O,a0, ⟨Nat.le_trans Z G,b7 (Nat.le_trans a1 Z),fun ro U B0 w0 F Q N M J I a w j=>bx ro B0 w0 F Q id N (Nat.le_trans M Z) I a w j⟩⟩
 | seq y z c3 c4=>
  intro p ab T H k r h Z a1
  rw [exec] at h
  obtain ⟨e,b6,b5,a0,G⟩:=c3 _ (mX ab rfl) T H _ r h Z a1
  cases e with
  | normal=>
   obtain ⟨e,S,O,b7,bx⟩:=c4 _ (mX ab rfl) b6 b5 k r a0 G.len a1
   refine ⟨e,S,O,b7, ⟨bx.len,fun q a4=>(bx.keep q a4).trans (G.keep q a4),fun ro U B0 w0 F Q N M J I a w j=>wpIn_seq ?_⟩⟩
   exact G.wp ro U B0 w0 F _ N M J (fun a2 w' a3=>bx.wp ro U B0 w0 F Q N M J I a2 w' a3) a w j
  | exit n=>exact ⟨_,b6,b5,a0, ⟨G.len,G.keep,fun ro U B0 w0 F Q N M J I a w j=>wpIn_seq (by refine G.wp ro U B0 w0 F _ N M J (fun a2 w' a3=> ?_) a w j;exact I a2 w' a3)⟩⟩
  | ret=>exact ⟨_,b6,b5,a0, ⟨G.len,G.keep,fun ro U B0 w0 F Q N M J I a w j=>wpIn_seq (by refine G.wp ro U B0 w0 F _ N M J (fun a2 w' a3=> ?_) a w j;exact I a2 w' a3)⟩⟩
 | cond c6 y z c3 c4=>
  intro p ab T H k r h Z a1
  rw [exec] at h
  unfold JV at h
  split at h
  ·rename_i v c2
   split at h
   ·rename_i t
    have c8:∀ {B0:Nat→Prop} {w0:World} {F:Fr} {a:Act} {w:World},cv x.P B0 w0 F T (H[·]?) a w→a.eval c6= .bool t:=by
     rintro B0 w0 F a w ⟨b1,D,α,b2,bD,_⟩
     have:=tq (P:=x.P) (D:=D) (α:=α) (B:=Own B0 D α (H[·]?)) (w:=w) (T:=T) (a:=a) c6 (fun d _=>ao.slot bD d)
     rw [c2] at this
     exact this
    cases t with
    | true=>
     simp only [cond] at h
     rw [Ky c2] at h
     obtain ⟨e,S,O,a0,G⟩:=c3 _ (mX ab rfl) T H k r h Z a1
     exact ⟨e,S,O,a0, ⟨G.len,G.keep,fun ro U B0 w0 F Q N M J I a w j=>wpIn_cond_true (c8 j) (G.wp ro U B0 w0 F Q N M J I a w j)⟩⟩
    | false=>
     simp only [cond] at h
     rw [Ky c2] at h
     obtain ⟨e,S,O,a0,G⟩:=c4 _ (mX ab rfl) T H k r h Z a1
     exact ⟨e,S,O,a0, ⟨G.len,G.keep,fun ro U B0 w0 F Q N M J I a w j=>wpIn_cond_false (c8 j) (G.wp ro U B0 w0 F Q N M J I a w j)⟩⟩
   ·cases h
  ·cases h
 | block id a7 b0=>
  intro p ab T H k r h Z a1
  rw [exec] at h
  obtain ⟨e,S,O,a0,G⟩:=b0 _ (mX ab rfl) T H _ r h Z a1
  cases e with
  | normal=>exact ⟨.normal,S,O,a0, ⟨G.len,G.keep,fun ro U B0 w0 F Q N M J I a w j=>wpIn_block (by refine G.wp ro U B0 w0 F _ N M J (fun a2 w' a3=> ?_) a w j;exact I a2 w' a3)⟩⟩
  | exit eh=>
   unfold Jw at a0
   simp only [Bool.cond_eq_ite,beq_iff_eq] at a0
   split at a0
   ·rename_i c0
    exact ⟨.normal,S,O,a0, ⟨G.len,G.keep,fun ro U B0 w0 F Q N M J I a w j=>wpIn_block (G.wp ro U B0 w0 F _ N M J (fun a2 w' a3=>by simp only [Ex.to,Exit.inBlock,if_pos c0];exact I a2 w' a3) a w j)⟩⟩
   ·rename_i c0
    exact ⟨.exit eh,S,O,a0, ⟨G.len,G.keep,fun ro U B0 w0 F Q N M J I a w j=>wpIn_block (G.wp ro U B0 w0 F _ N M J (fun a2 w' a3=>by simp only [Ex.to,Exit.inBlock,if_neg c0];exact I a2 w' a3) a w j)⟩⟩
  | ret=>exact ⟨.ret,S,O,a0, ⟨G.len,G.keep,fun ro U B0 w0 F Q N M J I a w j=>wpIn_block (by refine G.wp ro U B0 w0 F _ N M J (fun a2 w' a3=> ?_) a w j;exact I a2 w' a3)⟩⟩
 | loop a7 b0=>
  intro p ab T H k r h Z a1
  rw [exec] at h
  unfold Lo at h
  simp only [Bool.cond_eq_ite] at h
  have dy:tF (exec x a7 (false :: p)) x.u T H k=some r→∃ e S O,k e S O=some r∧Ends x.P x.rd x.fb x.lo (.loop a7) T H e S O:=by
   intro h
   obtain ⟨e,S,O,m,a0,G⟩:=Lp (P:=x.P) (rd:=x.rd) (fb:=x.fb) (lo:=x.lo) (c:=a7) (fun T H k r Z h=>b0 _ (mX ab rfl) T H k r h Z a1) x.u T H k r Z h
   exact ⟨e,S,O,a0,G.ends⟩
  split at h
  ·rename_i s j
   split at h
   ·exact dy h
   ·rename_i b4
    rw [Bool.not_eq_true] at b4
    split at h
    ·rename_i ed
     rw [beq_iff_eq] at ed
     unfold oC tv at h
     simp only [Bool.cond_eq_ite] at h
     split at h
     ·rename_i b3
      obtain ⟨e,S,O,a4,h⟩:=FQ h
      obtain ⟨c5,a5,a6⟩:=ch x.g _ p s _ _ e S O j a4
      rw [ab] at a5
      cases a5
      refine ⟨e,S,O,h, ⟨by omega,fun q a4=>by omega,fun ro U B0 w0 F Q N M J I a w j=> ?_⟩⟩
      have c7:∀ i,¬ F.D i:=fun i c1=>by have:=J i c1;omega
      refine a6.wp ro (fun _=>U b4) B0 w0 F Q N (by omega) (fun i c1=>absurd c1 (c7 i)) I a w ?_
      obtain ⟨b1,D,α,b2,bD,b8,ct⟩:=j
      exact NR b3 c7 (by omega) ⟨b1,D,α,b2,qI bD,b8,ct⟩
     ·cases h
    ·split at h
     ·rename_i eb
      rw [beq_iff_eq] at eb
      split at h
      ·unfold xK Cu at h
       simp only [Bool.cond_eq_ite,Bool.and_eq_true] at h
       split at h
       ·rename_i b3
        obtain ⟨e,S,O,a4,h⟩:=FQ h
        obtain ⟨c5,a5,a6⟩:=ch x.g _ p s _ _ e S O j a4
        rw [ab] at a5
        cases a5
        refine ⟨e,S,O,h, ⟨a6.len,fun q a4=>by omega,fun ro U B0 w0 F Q N M J I a w j=> ?_⟩⟩
        exact a6.wp ro (fun _=>U b4) B0 w0 F Q N M J I a w (NT b3.1 b3.2 M J j)
       ·cases h
      ·obtain ⟨e,S,O,a4,h⟩:=FQ h
       obtain ⟨c5,a5,a6⟩:=ch x.g _ p s _ _ e S O j a4
       rw [ab] at a5
       cases a5
       refine ⟨e,S,O,h, ⟨a6.len,fun q a4=>by omega,fun ro U B0 w0 F Q N M J I a w j=> ?_⟩⟩
       refine a6.wp ro (fun _=>U b4) B0 w0 F Q N M J I a w ?_
       obtain ⟨b1,D,α,b2,bD,b8,ct⟩:=j
       exact ⟨b1,D,α,b2,qI bD,b8,ct⟩
     ·cases h
  ·exact dy h
 | exit id=>intro p ab T H k r h Z a1;exact ⟨.exit id,T,H,h, ⟨Z,fun _ _=>rfl,fun ro U B0 w0 F Q N M J I a w j=>wpIn_exit (I a w j)⟩⟩
 | scope a7 b0=>
  intro p ab T H k r h Z a1
  rw [exec] at h
  obtain ⟨e,S,O,a0,G⟩:=b0 _ (mX ab rfl) T H _ r h Z a1
  refine ⟨e,S,O,a0, ⟨G.len,G.keep,fun ro U B0 w0 F Q N M J I a w j=>aeo (G.wp ro U B0 w0 F _ N M J (fun a2 w' a3=> ?_) a w j)⟩⟩
  have:=I a2 w' a3
  cases e <;> exact this
 | label l=>intro p ab T H k r h Z a1;exact ⟨.normal,T,H,h, ⟨Z,fun _ _=>rfl,fun ro U B0 w0 F Q N M J I a w j=>wpIn_label (I a w j)⟩⟩
 | ret=>intro p ab T H k r h Z a1;exact ⟨.ret,T,H,h, ⟨Z,fun _ _=>rfl,fun ro U B0 w0 F Q N M J I a w j=>wpIn_ret (I a w j)⟩⟩
 | rangeFunc f ps en a7 _ _=>
  intro p ab T H k r h Z a1
  rw [exec] at h
  exact ZX dx ab h Z a1
 | _=>intro p ab T H k r h;simp [exec] at h
end
end Go.V
namespace Go.V
open Go Go.RowKit
section
variable {R : Type} {P : Program}
theorem Eu {T:List AV} {H:Hp} :∀ (l:List ResultVar) (K:List AV→Option R) (r:R),vc P T H l K=some r→∃ vs,K vs=some r∧
  ∀ {B0:Nat→Prop} {w0:World} {D:Nat→Prop} {α:Nat→Nat×Nat} {w:World} {tmps:Array Value},Ok P B0 w0 D α (H[·]?) w→ao P α (Own B0 D α (H[·]?)) w T D tmps.toList→∃ G,(l.mapM fun
   | .tmp t=>pure (tmps.getD t undef)
   | .cell x t=>do loadVar t (← asAddr (tmps.getD x undef)):Sem (List Value)).run P w= .ok G w∧ao P α (Own B0 D α (H[·]?)) w vs D G
 | [],K,r,h=> ⟨[],h,fun {B0 w0 D α w tmps} I j=> ⟨[],rfl,rfl⟩⟩
 | x :: l,K,r,h=>by
  unfold vc at h
  have O:∀ (t:Nat) {B0:Nat→Prop} {D:Nat→Prop} {α:Nat→Nat×Nat} {w:World} {tmps:Array Value},ao P α (Own B0 D α (H[·]?)) w T D tmps.toList→(aA T (.tmp t)).Rel P α (Own B0 D α (H[·]?)) w D (tmps.getD t undef):=fun t {B0 D α w tmps} j=>tq (a:= { tmps:=tmps,defers:= [] }) (.tmp t) (fun d _=>ao.slot j d)
  cases x with
  | tmp t=>
   unfold Eb at h
   obtain ⟨vs,J,M⟩:=Eu l _ r h
   refine ⟨_,J,fun {B0 w0 D α w tmps} I j=> ?_⟩
   obtain ⟨G,k1,N⟩:=M I j
   refine ⟨tmps.getD t undef :: G, ?_,_,G,rfl,O t j,N⟩
   simp only [List.mapM_cons,Sem.run_bind,Sem.run_pure,Result.andThen,k1]
  | cell x t=>
   unfold Eb at h
   obtain ⟨v,Z,ab⟩:=Lm h
   obtain ⟨vs,J,M⟩:=Eu l _ r Z
   refine ⟨_,J,fun {B0 w0 D α w tmps} I j=> ?_⟩
   obtain ⟨G,k1,N⟩:=M I j
   obtain ⟨b,off,y,a1,S,U⟩:=ab (fun _ _ _ _=>rfl) I (O x j)
   refine ⟨y :: G, ?_,_,G,rfl,U,N⟩
   have a0:(asAddr (tmps.getD x undef)).run P w= .ok ⟨b,off,none⟩ w:=by rw [a1];rfl
   simp only [List.mapM_cons,Sem.run_bind,Sem.run_pure,a0,Result.andThen,S,k1]
theorem Zg {D:Nat→Prop} {α:Nat→Nat×Nat} {B:Nat→Prop} {w:World} {vs:List AV} {j:List Value} (k:ao P α B w vs D j):(qS vs).Rel P α B w D (if h:j.toArray.size=1 then j.toArray[0] else .tuple j.toArray):=by
 have I:=ao.len k
 unfold qS
 split
 ·obtain ⟨y,zs,rfl,k1,M⟩:=k
  rw [show zs= [] from M]
  exact k1
 ·rename_i J
  rw [dif_neg ?_]
  ·exact ⟨_,rfl,k⟩
  ·intro G
   rw [List.size_toArray,I] at G
   cases vs with
   | nil=>cases G
   | cons v vs=>
    cases vs with
    | nil=>exact J v rfl
    | cons u vs=>simp at G
theorem Y4 {B0:Nat→Prop} {w0:World} {D:Nat→Prop} {α:Nat→Nat×Nat} {h:Hf} {w:World} (G:Ok P B0 w0 D α h w) {m:Nat} {ds:Option (List Deferred)} (a0:w.heap[m]? =some (.deferred ds)) (a3:w0.heap.size≤m) (M:Option (List Deferred)):
  Ok P B0 w0 D α h (w.putObj m (.deferred M))∧eJ D D α α (Own B0 D α h) (Own B0 D α h) w (w.putObj m (.deferred M)):=by
 have ab:∀ (b:Nat) (o:Obj),w.heap[b]? =some o→(∀ ds,o≠Obj.deferred ds)→(w.putObj m (.deferred M)).heap[b]? =some o:=by
  intro b o j I
  rw [World.putObj_heap_other (fun e=>by subst e;rw [a0] at j;cases j;exact I _ rfl)]
  exact j
 have Z:eJ D D α α (Own B0 D α h) (Own B0 D α h) w (w.putObj m (.deferred M)):= ⟨fun _ h=>h,fun _ _=>rfl,fun b cs ty fr j I=> ⟨I,ab b _ j (fun ds e=>by cases e)⟩⟩
 refine ⟨⟨G.lt,G.below.trans (Js w _ a3),fun b J=> ?_,G.sep,fun i U=>by rw [World.putObj_size];exact G.fresh i U,G.inj,G.cV,fun i k U a1=> ?_⟩,Z⟩
 ·have j:=G.cJ b J
  refine ⟨by rw [World.putObj_size];exact j.1,fun ds=> ?_⟩
  rw [World.putObj_heap_other (fun e=>by subst e;exact j.2 _ a0)]
  exact j.2 ds
 ·have J:=G.cN i k U a1
  cases k with
  | row c ty st=>
   rcases J with J | ⟨cs,fr,j,I,N,O,S⟩
   ·exact .inl J
   ·exact .inr ⟨cs,fr,ab _ _ j (fun ds e=>by cases e),I,N,O,ao.mono _ _ Z S⟩
  | loop a4=>
   obtain ⟨L,j,I,N,O,S,a2⟩:=J
   exact ⟨L,ab _ _ j (fun ds e=>by cases e),I,N,O,S,ao.mono _ _ Z a2⟩
theorem K9 {B0:Nat→Prop} {w0:World} {F:Fr} {h:Hf} {T:List AV} {I:Array Value} {O:Func} {N:Ending→World→Prop} {D:Nat→Prop} {α:Nat→Nat×Nat} (a1:w0.heap.size≤F.w.heap.size)
  (U:∀ w,Ok P B0 w0 D α h w→ao P α (Own B0 D α h) w T D I.toList→bB F.D D F.α α F.C (aQ D α h) F.w w→∃ v,(results O I).run P w= .ok v w∧N (.returned v) w):
  ∀ (G:List Nat) (w:World),G.Nodup→(∀ r ∈ G,F.w.heap.size≤r∧w.heap[r]? =some (.deferred (some [])))→Ok P B0 w0 D α h w→ao P α (Own B0 D α h) w T D I.toList→bB F.D D F.α α F.C (aQ D α h) F.w w→
   LeavesInM Fence.wide 0 P O I N (G.map fun r=> { target:= .collected r,args:= #[] }) .returning w
 | [],w,_,_,J,M,j=>U w J M j
 | m :: G,w,a6,ab,J,M,j=>by
  obtain ⟨a5,Z⟩:=ab m List.mem_cons_self
  obtain ⟨a7,bx⟩:=List.nodup_cons.1 a6
  obtain ⟨a3,a4⟩:=Y4 J Z (Nat.le_trans a1 a5) none
  refine ⟨(by intro h;cases h), .inl ⟨m,_,rfl,run_takeDeferred Z, ?_⟩⟩
  refine K9 a1 U G _ bx (fun r a0=> ?_) a3 (ao.mono _ _ a4 M) ⟨j.le,j.same,fun b o S a2=> ?_⟩
  ·have:=ab r (List.mem_cons_of_mem _ a0)
   exact ⟨this.1,(World.putObj_heap_other (fun e:r=m=>a7 (e ▸ a0))).trans this.2⟩
  ·have bD:=(Array.getElem?_eq_some_iff.1 S).1
   have:=j.block b o S a2
   exact ⟨this.1,(World.putObj_heap_other (by omega)).trans this.2⟩
theorem L6 {D:Nat→Prop} {α:Nat→Nat×Nat} {B:Nat→Prop} {w:World} :∀ (ps:List Tmp) (T:List AV) (args:List AV) (j:Array Value) (G:List Value),ao P α B w T D j.toList→ao P α B w args D G→
  ao P α B w (vn T ps args) D ((ps.zip G).foldl (fun (j:Array Value) (p:Tmp×Value)=>j.setIfInBounds p.1 p.2) j).toList
 | [],T,args,j,G,I,J=>by simpa [vn] using I
 | p :: ps,T, [],j,G,I,J=>by rw [show G= [] from J];simpa [vn] using I
 | p :: ps,T,v :: args,j,G,I,J=>by
  obtain ⟨y,zs,rfl,M,N⟩:=J
  exact L6 ps (T.set p v) args (j.setIfInBounds p y) zs (by rw [Array.toList_setIfInBounds];exact ao.set I p M) N
theorem aap {j:Func} {k:Kn R} {e:Ex} {T:List AV} {H:Hp} {r:R} (h:Ec P j k e T H=some r):(e= .normal∨e= .ret)∧vc P T H j.results.toList (fun vs=>k (qS vs) H)=some r:=by
 unfold Ec at h
 cases e with
 | normal=>exact ⟨.inl rfl,h⟩
 | ret=>exact ⟨.inr rfl,h⟩
 | exit id=>cases h
theorem JF {E:Env} {u d:Nat} (b5:∀ fb lo g rd,eT (R:=R) ⟨P,E,gw P E u d,kE P E u d,u,fb,lo,g,rd⟩) (b0:cL P E) (ch:P.follows .mixedOrders=true):Hc P (R:=R) (gw P E u (d+1)):=by
 intro lo g args H k r c7 h
 unfold gw at h
 split at h
 ·cases h
 ·rename_i G a0
  split at h
  ·cases h
  ·rename_i c ab
   simp only [Bool.cond_eq_ite] at h
   split at h
   ·rename_i S
    have S:=of_decide_eq_true S
    obtain ⟨e,c6,J,a4,M⟩:=qw (b5 H.length lo g false) b0 ch c [] (by show (P.funcs[g]?).bind (·.body)=some c;rw [a0];exact ab) _ H _ r h (Nat.le_refl _) S
    obtain ⟨b6,a5⟩:=aap a4
    obtain ⟨vs,a6,a7⟩:=Eu _ _ r a5
    refine ⟨qS vs,J,a6,M.len,fun _=>M.keep,fun B0 w0 D α w a3 I Z=> ?_⟩
    have a1:=ao.len Z
    rw [Array.length_toList] at a1
    have c2:cv P B0 w0 ⟨H.length,D,α,aQ D α (H[·]?),w⟩ (args ++ List.replicate (G.ntmps - args.length) (.val undef)) (H[·]?) { tmps:=a3 ++ Array.replicate (G.ntmps - a3.size) undef,defers:= [] } w:=by
     refine ⟨⟨Nat.le_refl _, [],rfl,List.nodup_nil,fun r h=>by cases h⟩,D,α,I, ?_,bB.refl _ _ _ _,fun i j _=>j⟩
     rw [Array.toList_append,Array.toList_replicate,a1]
     refine ao.append Z ?_
     rw [show List.replicate (G.ntmps - args.length) (AV.val undef)=(List.replicate (G.ntmps - args.length) undef).map .val by rw [List.map_replicate]]
     exact ao.vals _
    have b8:∀ i,D i→i < H.length:=fun i j=>by obtain ⟨k,O⟩:=I.lt i j;exact (List.getElem?_eq_some_iff.1 O).1
    refine callsIn_of_wp_marks (F:=Fence.wide) a0 ab trivial (M.wp none (fun _=>rfl) B0 w0 ⟨H.length,D,α,aQ D α (H[·]?),w⟩ _ I.below.size (Nat.le_refl _) b8 (fun U w' c3=> ?_) _ w c2)
    obtain ⟨⟨_,c5,c0,ct,c1⟩,D',α',b2,b3,bx,b1⟩:=c3
    have a2:LeavesInM Fence.wide 0 P G U.tmps (rU P B0 w0 D α (H[·]?) w H.length J.length (qS vs) (J[·]?)) U.defers .returning w':=by
     rw [c0]
     refine K9 (F:= ⟨H.length,D,α,aQ D α (H[·]?),w⟩) I.below.size (fun w'' N b4 bD=> ?_) c5 w' ct c1 b2 b3 bx
     obtain ⟨c8,k1,c4⟩:=a7 N b4
     refine ⟨_, ?_,_,D',α',rfl,N,fun i j=> ?_,bD,Zg c4⟩
     ·unfold results
      simp only [Array.mapM_eq_mapM_toList,Sem.run_bind,Sem.run_map,Result.andThen,Sem.run_pure]
      erw [k1]
     ·by_cases b7:i < H.length
      ·exact .inl (b1 i j b7)
      ·obtain ⟨k,O⟩:=N.lt i j
       have:=(List.getElem?_eq_some_iff.1 O).1
       exact .inr ⟨by omega,this⟩
    rcases b6 with rfl | rfl
    ·exact a2
    ·exact a2
   ·cases h
theorem Wi {i:Nat} {k:Kn R} {e:Ex} {M:List AV} {I:Hp} {r:R} (h:xA i k e M I=some r):∃ j G b st,I[i]? =some (.loop j)∧k (.val (.bool b)) (I.set i (.loop { j with st:=st,bN:=G }))=some r∧e=rf G∧b=G.isNone∧st=(if G.isNone then .ready else .done):=by
 unfold xA at h
 split at h
 ·rename_i j J
  cases e with
  | normal=>exact ⟨j,none,true, .ready,J,h,rfl,rfl,rfl⟩
  | ret=>exact ⟨j,some .ret,false, .done,J,h,rfl,rfl,rfl⟩
  | exit n=>exact ⟨j,some (.exit n),false, .done,J,h,rfl,rfl,rfl⟩
 ·cases h
theorem Q3 {i:Nat} {B:Nat→List AV→Hp→Cn R→Option R} {k:Kn R} {e:Ex} {I:List AV} {G:Hp} {r:R} (h:Bk i B k e I G=some r):∃ j,e= .normal∧G[i]? =some (.loop j)∧j.st= .ready∧B G.length I (G.set i (.loop { j with st:= .busy })) (xA i k)=some r:=by
 unfold Bk at h
 simp only [Bool.cond_eq_ite] at h
 split at h
 ·split at h
  ·rename_i j M
   split at h
   ·rename_i J
    refine ⟨j,rfl,M, ?_,h⟩
    cases N:j.st <;> rw [N] at J <;> first | rfl | cases J
   ·cases h
  ·cases h
 ·cases h
theorem aaO {l:Nat} {J:Ending→World→Prop} {j:Option Jump} {a:Act} {w w':World} (G:(Instr.endRound l (j.map Jump.code)).run P w= .ok (.bool j.isNone) w') (I:J (.returned (.bool j.isNone)) w'):roundPost P l J (rf j).to a w:=by
 cases j with
 | none=>exact ⟨_,_,G,I⟩
 | some j=>
  cases j with
  | ret=>exact ⟨_,_,G,I⟩
  | exit n=>exact ⟨_,_,G,I⟩
theorem aew {E:Env} {u d:Nat} (b3:∀ fb lo g rd,eT (R:=R) ⟨P,E,gw P E u d,kE P E u d,u,fb,lo,g,rd⟩) (b0:cL P E) (b8:P.follows .mixedOrders=true):Je P (R:=R) (kE P E u (d+1)):=by
 intro lo i args H k r h
 unfold kE at h
 split at h
 ·rename_i j ct
  split at h
  ·rename_i f ps a7 bx a4
   simp only [Bool.cond_eq_ite] at h
   split at h
   ·rename_i ch
    simp only [Bool.and_eq_true,beq_iff_eq,decide_eq_true_eq] at ch
    obtain ⟨⟨g8,ep⟩,g7⟩:=ch
    have I:i < H.length:=(List.getElem?_eq_some_iff.1 ct).1
    obtain ⟨g1,fs,G,c8,Z⟩:=qw (b3 H.length lo j.g true) b0 b8 a7 (false :: j.path) (mX a4 rfl) _ H _ r h (Nat.le_refl _) (show lo≤H.length by omega)
    obtain ⟨fa,rfl,ez,e0,dx⟩:=Q3 c8
    have b5:H.length≤G.length:=Z.len
    obtain ⟨g2,fv,U,dy,ab⟩:=qw (b3 G.length lo j.g true) b0 b8 bx (true :: j.path) (mX a4 rfl) _ _ _ r dx (by simp) (show lo≤G.length by omega)
    obtain ⟨hl,J,b,st,eN,eb,rfl,rfl,rfl⟩:=Wi dy
    have g6:G.length≤U.length:=ab.len
    refine ⟨_,_,eb,by rw [List.length_set];omega,fun _ q O=> ?_,fun B0 w0 D α w a6 N M b2=> ?_⟩
    ·rw [List.getElem?_set_ne (by omega),ab.keep q O,List.getElem?_set_ne (by omega),Z.keep q O]
    ·obtain ⟨L,l1,l2,ha,c2, ⟨g3,hk,c3⟩,e5⟩:=N.cN i _ M ct
     rw [a4] at c3
     obtain ⟨rfl,rfl⟩:a7=L.assign∧bx=L.body:=by cases c3;exact ⟨rfl,rfl⟩
     have b6:=ao.len b2
     rw [Array.length_toList] at b6
     have b7:∀ i,D i→i < H.length:=fun i I=>by obtain ⟨k,a5⟩:=N.lt i I;exact (List.getElem?_eq_some_iff.1 a5).1
     refine ⟨L.fn,_,L.assign,L.body,run_yield l1 (by rw [c2,← ep,b6]), ?_⟩
     refine roundIn_of_wpIn (F:=Fence.wide) trivial ?_
     have e4:((L.params.zip a6).foldl (fun tmps (t,a)=>tmps.setIfInBounds t a) L.tmps)=(j.params.toList.zip a6.toList).foldl (fun (tmps:Array Value) (p:Tmp×Value)=>tmps.setIfInBounds p.1 p.2) L.tmps:=by
      rw [← Array.foldl_toList,Array.toList_zip,c2]
     rw [e4]
     have e1:cv P B0 w0 ⟨H.length,D,α,aQ D α (H[·]?),w⟩ (vn j.T j.params.toList args) (H[·]?) { tmps:=(j.params.toList.zip a6.toList).foldl (fun (tmps:Array Value) (p:Tmp×Value)=>tmps.setIfInBounds p.1 p.2) L.tmps,defers:= [] } w:=
      ⟨⟨Nat.le_refl _, [],rfl,List.nodup_nil,fun r h=>by cases h⟩,D,α,N,L6 _ _ _ _ _ e5 b2,bB.refl _ _ _ _,fun i I _=>I⟩
     refine Z.wp (some (α i).1) (fun h=>by cases h) B0 w0 ⟨H.length,D,α,aQ D α (H[·]?),w⟩ _ N.below.size (Nat.le_refl _) b7 (fun gf hn e2=> ?_) _ w e1
     obtain ⟨ec,D1,α1,b1,eo,a0,ed⟩:=e2
     have c0:α1 i=α i:=a0.same i M
     obtain ⟨fc,c4,e6,e7,hb,hc,hd,a2,S⟩:=CR b1 (a0.le i M) ez .busy fa.bN
     have et:i < G.length:=by omega
     rw [← Ez G et,c0,← e7] at a2 S
     rw [c0] at c4
     refine ⟨_,run_beginRound c4 (e6.trans e0), ?_⟩
     refine ab.wp (some (α i).1) (fun h=>by cases h) B0 w0 ⟨H.length,D,α,aQ D α (H[·]?),w⟩ _ N.below.size b5 (fun i I=>Nat.lt_of_lt_of_le (b7 i I) b5) (fun gn ho e3=> ?_) _ _ ⟨ec.mono b1 a2 S,D1,α1,a2,ao.mono _ _ (S.keeps B0) eo,a0.trans S,ed⟩
     obtain ⟨g4,c7,c6,en,g5,a1,eh⟩:=e3
     have c1:c6 i=α i:=a1.same i M
     obtain ⟨fh,c5,hf,hg,hh,hi,hj,a3,bD⟩:=CR en (a1.le i M) eN (if J.isNone then .ready else .done) J
     have eu:i < U.length:=by omega
     rw [← Ez U eu,c1] at a3 bD
     rw [c1] at c5
     have b4:=run_endRound (P:=P) (J.map Jump.code) c5
     have ev:(J.map Jump.code).isNone=J.isNone:=by cases J <;> rfl
     rw [ev] at b4
     refine aaO b4 ⟨_,c7,c6,rfl,a3,fun q O=> ?_,a1.trans bD,rfl⟩
     by_cases ey:q < H.length
     ·exact .inl (eh q O ey)
     ·obtain ⟨k,a5⟩:=a3.lt q O
      have:=(List.getElem?_eq_some_iff.1 a5).1
      exact .inr ⟨by omega,this⟩
   ·cases h
  ·cases h
 ·cases h
theorem qj {E:Env} (j:bb P E.C) (G:cL P E) (I:P.follows .mixedOrders=true) (u:Nat):∀ (d fb lo:Nat) (g:FuncId) (rd:Bool),eT (R:=R) ⟨P,E,gw P E u d,kE P E u d,u,fb,lo,g,rd⟩
 | 0,fb,lo,g,rd=> ⟨j,fun lo g args H k r _ h=>by simp [gw] at h,fun lo i args H k r h=>by simp [kE] at h⟩
 | d+1,fb,lo,g,rd=> ⟨j,JF (qj j G I u d) G I,aew (qj j G I u d) G I⟩
theorem p9 {E:Env} (a4:bb P E.C) (J:cL P E) (N:P.follows .mixedOrders=true) {u d:Nat} {g:FuncId} {args:List AV} {v:AV} (b1:fH P g=true) (h:aD P E u d g args=some v) (B:Nat→Prop) (w:World) (G:Array Value) (a3:∀ b,B b→b < w.heap.size∧∀ ds,w.heap[b]?≠some (.deferred ds)) (bx:ao P cd B w args bh G.toList):
  Calls P g G w fun e w'=>∃ y,e= .returned y∧Below w.heap.size w w'∧v.Rel P cd B w' bh y:=by
 unfold aD at h
 cases d with
 | zero=>simp [gw] at h
 | succ d=>
  obtain ⟨O,I,Z,b5,_,ab⟩:=JF (R:=AV) (qj a4 J N u d) J N 0 g args [] _ v b1 h
  obtain ⟨b8,a0,a1⟩:=Cq 8 O some v Z
  cases a0
  have b2:∀ b,Own B bh cd (([]:Hp)[·]?) b↔B b:=fun b=> ⟨fun h=>h.elim id (fun ⟨_,_,h,_⟩=>h.elim), .inl⟩
  have a6:Ok P B w bh cd (([]:Hp)[·]?) w:= ⟨fun i j=>j.elim,Below.refl _ _,a3,fun b _ ⟨_,_,h,_⟩=>h,fun i j=>j.elim,fun i b7 k l j=>j.elim,fun i k j=>j.elim,fun i k j=>j.elim⟩
  have b0:eJ bh bh cd cd B (Own B bh cd (([]:Hp)[·]?)) w w:= ⟨fun _ h=>h,fun _ _=>rfl,fun b cs ty fr S U=> ⟨fun h=>U ((b2 b).1 h),S⟩⟩
  have:=ab B w bh cd w G a6 (ao.mono _ _ b0 bx)
  refine (callsIn_wide.1 this).mono ?_
  rintro e w' ⟨y,D',α',rfl,M,_,b6,b3⟩
  obtain ⟨a7,a5⟩:=yd (cr I 8 [O]) M
  have a2:=a1 a7 (fun i c ty st j b4=>Ct _ I i c ty (b4.elim (fun e=> .inr ⟨by rw [j,e.1],e.2⟩) (fun e=> .inl (by rw [j,e])))) y (AV.Rel.mono _ _ (a5.keeps B) b3)
  exact ⟨y,rfl,M.below,CZ (fun b bD=> .inl bD) a2⟩
end
end Go.V
namespace Go.V
open Go Go.RowKit
noncomputable section
def cx {R:Type} (P:Program) (E:Env) (g:FuncId):Cx R:= ⟨P,E,gw P E 200 40,kE P E 200 40,200,0,0,g,false⟩
def aN (P:Program) (E:Env) (g:FuncId) (keep:List Nat) (c:Code) (p:List Bool) (T:List AV) (H:Hp):Option (Ex×List AV×Hp):=
 exec (cx P E g) c p T H fun e T H=>oC keep T H fun T H=>some (e,T,H)
end
section
variable {P : Program} {E : Env} {g : FuncId}
theorem xB {c:Code} {T:List AV} {H:Hp} {e:Ex} {M:List AV} {I:Hp} {keep:List Nat} {J:List AV} {G:Hp} (h:Ends P false 0 0 c T H e M I) (j:oC keep M I (fun T H=>some (T,H))=some (J,G)):Ends P false 0 0 c T H e J G:=by
 unfold oC tv at j
 simp only [Bool.cond_eq_ite] at j
 split at j
 ·rename_i a5
  cases j
  refine ⟨Nat.zero_le _,fun q b0=>by omega,fun ro a6 B0 w0 F Q bD a3 N a1 a w a7=>h.wp ro a6 B0 w0 F Q bD a3 N (fun O w' bx=>a1 O w' ?_) a w a7⟩
  have S:∀ i,¬ F.D i:=fun i a4=>by have:=N i a4;omega
  obtain ⟨Z,D,α,a0,a2,U,ab⟩:=bx
  exact NR a5 S (by omega) ⟨Z,D,α,a0,qI a2,U,ab⟩
 ·cases j
theorem bw (O:bb P E.C) (J:cL P E) (M:P.follows .mixedOrders=true) {keep:List Nat} {c:Code} {p:List Bool} (U:aJ P g p=some c) {T:List AV} {H:Hp} {e:Ex} {I:List AV} {G:Hp} (h:aN P E g keep c p T H=some (e,I,G)):Ends P false 0 0 c T H e I G:=by
 unfold aN at h
 obtain ⟨a0,ab,Z,j,N⟩:=qw (qj O J M 200 40 0 0 g false) J M c p U T H _ _ h (Nat.zero_le _) (Nat.le_refl _)
 unfold oC tv at j
 simp only [Bool.cond_eq_ite] at j
 split at j
 ·rename_i S
  cases j
  refine xB (keep:=keep) N ?_
  unfold oC tv
  simp only [Bool.cond_eq_ite]
  rw [if_pos S]
 ·cases j
def aw (P:Program) (c:Code) (T:List AV) (H:Hp) (e:Ex) (G:List AV) (j:Hp):Prop:=∃ n,kF P false 0 0 c e G j n T H
theorem aw.more {c:Code} {T:List AV} {H:Hp} {J:List AV} {G:Hp} {e:Ex} {I:List AV} {j:Hp} (h:Ends P false 0 0 c T H .normal J G) (k:aw P c J G e I j):aw P c T H e I j:=by
 obtain ⟨n,k⟩:=k
 exact ⟨n+1, .more h k⟩
theorem aw.last {c:Code} {T:List AV} {H:Hp} {e:Ex} {G:List AV} {j:Hp} (h:Ends P false 0 0 c T H e G j) (I:e≠ .normal):aw P c T H e G j:= ⟨0, .last h I⟩
theorem aw.ends {c:Code} {T:List AV} {H:Hp} {e:Ex} {G:List AV} {j:Hp} (h:aw P c T H e G j):Ends P false 0 0 (.loop c) T H e G j:=by
 obtain ⟨n,h⟩:=h
 exact h.ends
def Entry (P:Program) (g:FuncId) (f:List AV→Option (Bool×AV)):Prop:=
 ∀ args r,f args=some (true,r)→∀ (B:Nat→Prop) (w:World) (j:Array Value),(∀ b,B b→b < w.heap.size∧∀ ds,w.heap[b]?≠some (.deferred ds))→ao P cd B w args bh j.toList→
  Calls P g j w fun e w'=>∃ y,e= .returned y∧Below w.heap.size w w'∧r.Rel P cd B w' bh y
theorem aX (G:bb P E.C) (I:cL P E) (J:P.follows .mixedOrders=true) (M:fH P g=true) {u d:Nat} {f:List AV→Option (Bool×AV)} (h:∀ args r,f args=some (true,r)→aD P E u d g args=some r):Entry P g f:=
 fun args r N B w S j O=>p9 G I J M (h args r N) B w S j O
theorem aH (P:Program):bb P fun _ _=>none:=fun g args r h=>by cases h
abbrev aE:=FuncId→Nat→List Bool→Option (List Nat×(List AV→Hp→Option (Bool×Ex×List AV×Hp)))
theorem aK {P:Program} {C:FuncId→List AV→Option (Bool×AV)} {K:FuncId→Bool} :cL P ⟨C,K,fun _ _ _=>none⟩:=fun g n p s T H e G j h=>by cases h
def bp (n:Nat) (g:FuncId) (p:List Bool) (keep:List Nat) (f:List AV→Hp→Option (Bool×Ex×List AV×Hp)) (L:aE):aE:=
 fun j G I=>bif j==g&&G==n&&I==p then some (keep,f) else L j G I
def mh (g:FuncId) (p:List Bool) (keep:List Nat) (f:List AV→Hp→Option (Bool×Ex×List AV×Hp)) (L:aE):aE:=bp 0 g p keep f L
def an (g:FuncId) (f:List AV→Option (Bool×AV)) (C:FuncId→List AV→Option (Bool×AV)):FuncId→List AV→Option (Bool×AV):=
 fun j args=>bif j==g then f args else C j args
def aF:FuncId→List AV→Option (Bool×AV):=fun _ _=>none
def aq:aE:=fun _ _ _=>none
def aB (P:Program) (L:aE):Prop:=∀ g n p s T H e G j,L g n p=some s→s.2 T H=some (true,e,G,j)→∃ I,aJ P g p=some (.loop I)∧Ends P false n 0 (.loop I) T H e G j
theorem aB.ok {L:aE} (h:aB P L) {C:FuncId→List AV→Option (Bool×AV)} {K:FuncId→Bool} :cL P ⟨C,K,L⟩:=h
theorem aB.none:aB P aq:=fun g n p s T H e G j h=>by cases h
theorem aB.br {L:aE} (S:aB P L) {n:Nat} {g:FuncId} {p:List Bool} {keep:List Nat} {f:List AV→Hp→Option (Bool×Ex×List AV×Hp)} {J:Code} (U:aJ P g p=some (.loop J)) (h:∀ T H e G j,f T H=some (true,e,G,j)→Ends P false n 0 (.loop J) T H e G j):aB P (bp n g p keep f L):=by
 intro O Z ab s T H e G j I N
 unfold bp at I
 rw [Bool.cond_eq_ite] at I
 split at I
 ·rename_i M
  rw [Bool.and_eq_true,Bool.and_eq_true,beq_iff_eq,beq_iff_eq,beq_iff_eq] at M
  obtain ⟨⟨rfl,rfl⟩,rfl⟩:=M
  cases I
  exact ⟨J,U,h T H e G j N⟩
 ·exact S O Z ab s T H e G j I N
theorem aB.nb {L:aE} (J:aB P L) {g:FuncId} {p:List Bool} {keep:List Nat} {f:List AV→Hp→Option (Bool×Ex×List AV×Hp)} {I:Code} (M:aJ P g p=some (.loop I)) (h:∀ T H e G j,f T H=some (true,e,G,j)→Ends P false 0 0 (.loop I) T H e G j):aB P (mh g p keep f L):=J.br M h
theorem aB.add {L:aE} (J:aB P L) {g:FuncId} {p:List Bool} {keep:List Nat} {f:List AV→Hp→Option (Bool×Ex×List AV×Hp)} {I:Code} (M:aJ P g p=some (.loop I)) (h:∀ T H e G j,f T H=some (true,e,G,j)→aw P I T H e G j):aB P (mh g p keep f L):=J.nb M fun T H e G j N=>(h T H e G j N).ends
noncomputable def iN (P:Program) (E:Env) (n:Nat) (g:FuncId) (keep:List Nat) (c:Code) (p:List Bool) (T:List AV) (H:Hp):Option (Ex×List AV×Hp):=
 bif decide (n≤H.length) then exec ⟨P,E,gw P E 200 40,kE P E 200 40,200,n,0,g,false⟩ c p T H fun e T H=>some (e,cX keep T,H) else Option.none
theorem vd (U:bb P E.C) (J:cL P E) (M:P.follows .mixedOrders=true) {n:Nat} {keep:List Nat} {c:Code} {p:List Bool} (a6:aJ P g p=some c) {T:List AV} {H:Hp} {e:Ex} {I:List AV} {G:Hp} (h:iN P E n g keep c p T H=some (e,I,G)):Ends P false n 0 c T H e I G:=by
 unfold iN at h
 rw [Bool.cond_eq_ite] at h
 split at h
 ·rename_i N
  rw [decide_eq_true_eq] at N
  obtain ⟨b3,b2,b1,S,j⟩:=qw (qj U J M 200 40 n 0 g false) J M c p a6 T H _ _ h N (Nat.zero_le _)
  cases S
  exact ⟨j.len,j.keep,fun ro a7 B0 w0 F Q b0 a5 Z a3 a w bx=>j.wp ro a7 B0 w0 F Q b0 a5 Z (fun O w' bD=>a3 O w' (by
   obtain ⟨a0,D,α,a2,a4,ab,a1⟩:=bD
   exact ⟨a0,D,α,a2,qI a4,ab,a1⟩)) a w bx⟩
 ·cases h
noncomputable def nP (P:Program) (E:Env) (n:Nat) (g:FuncId) (keep:List Nat) (c:Code) (p:List Bool) (T:List AV) (H:Hp):Option (Ex×List AV×Hp):=
 bif decide (n≤H.length) then exec ⟨P,E,gw P E 200 40,kE P E 200 40,200,n,0,g,false⟩ c p T H fun e T H=>xK n keep T H fun T H=>some (e,T,H) else Option.none
theorem Eh (a0:bb P E.C) (N:cL P E) (S:P.follows .mixedOrders=true) {n:Nat} {keep:List Nat} {c:Code} {p:List Bool} (a2:aJ P g p=some c) {T:List AV} {H:Hp} {e:Ex} {J:List AV} {I:Hp} (h:nP P E n g keep c p T H=some (e,J,I)):Ends P false n 0 c T H e J I:=by
 unfold nP at h
 rw [Bool.cond_eq_ite] at h
 split at h
 ·rename_i U
  rw [decide_eq_true_eq] at U
  obtain ⟨bD,bx,a7,j,ab⟩:=qw (qj a0 N S 200 40 n 0 g false) N S c p a2 T H _ _ h U (Nat.zero_le _)
  unfold xK Cu at j
  simp only [Bool.cond_eq_ite,Bool.and_eq_true] at j
  split at j
  ·rename_i G
   cases j
   exact ⟨WI G.2,fun q b0=>by omega,fun ro a3 B0 w0 F Q a6 O M a1 a w a4=>ab.wp ro a3 B0 w0 F Q a6 O M (fun Z w' a5=>a1 Z w' (NT G.1 G.2 O M a5)) a w a4⟩
  ·cases j
 ·cases h
def bQ (P:Program) (n:Nat) (c:Code) (T:List AV) (H:Hp) (e:Ex) (G:List AV) (j:Hp):Prop:=∃ m,kF P false n 0 c e G j m T H
theorem bQ.more {n:Nat} {c:Code} {T:List AV} {H:Hp} {J:List AV} {G:Hp} {e:Ex} {I:List AV} {j:Hp} (h:Ends P false n 0 c T H .normal J G) (k:bQ P n c J G e I j):bQ P n c T H e I j:=by
 obtain ⟨m,k⟩:=k
 exact ⟨m+1, .more h k⟩
theorem bQ.last {n:Nat} {c:Code} {T:List AV} {H:Hp} {e:Ex} {G:List AV} {j:Hp} (h:Ends P false n 0 c T H e G j) (I:e≠ .normal):bQ P n c T H e G j:= ⟨0, .last h I⟩
theorem bQ.ends {n:Nat} {c:Code} {T:List AV} {H:Hp} {e:Ex} {G:List AV} {j:Hp} (h:bQ P n c T H e G j):Ends P false n 0 (.loop c) T H e G j:=by
 obtain ⟨m,h⟩:=h
 exact h.ends
theorem bb.add {C:FuncId→List AV→Option (Bool×AV)} (J:bb P C) {f:List AV→Option (Bool×AV)} (h:Entry P g f):bb P (an g f C):=by
 intro I args r j
 unfold an at j
 rw [Bool.cond_eq_ite] at j
 split at j
 ·rename_i G
  rw [beq_iff_eq] at G
  subst G
  exact h args r j
 ·exact J I args r j
theorem Ends.pre {n:Nat} {c:Code} {T I:List AV} {H:Hp} {e:Ex} {G:List AV} {j:Hp} (h:Ends P false n 0 c I H e G j) (a3:∀ (α:Nat→Nat×Nat) (B:Nat→Prop) (w:World) (D:Nat→Prop) (J:List Value),ao P α B w T D J→ao P α B w I D J):Ends P false n 0 c T H e G j:=
 ⟨h.len,h.keep,fun ro a1 B0 w0 F Q a4 a0 M Z a w a2=>h.wp ro a1 B0 w0 F Q a4 a0 M Z a w (by obtain ⟨O,D,α,U,ab,N,S⟩:=a2;exact ⟨O,D,α,U,a3 _ _ _ _ _ ab,N,S⟩)⟩
theorem tG {fl:Bool} {t:TypeId} {m:Nat} {f:Nat→Nat→AV} {α:Nat→Nat×Nat} {B:Nat→Prop} {w:World} {D:Nat→Prop} {x:Value} (h:(AV.lst fl t m f).Rel P α B w D x):(AV.lst false t m f).Rel P α B w D x:=by
 obtain ⟨A,cap,j,G,J,I⟩:=h
 exact ⟨A,cap,j,G,(fun h=>by cases h),I⟩
def lY:List (Nat×AV)→Nat→AV
 | [],_=> .any
 | p :: l,i=>bif p.1==i then p.2 else lY l i
def av (n:Nat) (l:List (Nat×AV)):List AV:=(List.range n).map (lY l)
theorem bm {n:Nat} {l:List (Nat×AV)} {T:List AV} {α:Nat→Nat×Nat} {B:Nat→Prop} {w:World} {D:Nat→Prop} {S:List Value} (Z:T.length=n) (h:∀ p ∈ l,∀ y,(al T p.1).Rel P α B w D y→p.2.Rel P α B w D y) (j:ao P α B w T D S):ao P α B w (av n l) D S:=by
 unfold av
 refine ao.nG (by rw [ao.len j,List.length_map,List.length_range,Z]) (fun i v O=> ?_)
 rw [List.getElem?_map,Option.map_eq_some_iff] at O
 obtain ⟨a1,J,rfl⟩:=O
 obtain ⟨U,M⟩:=List.getElem?_eq_some_iff.1 J
 rw [List.getElem_range] at M
 subst M
 rw [List.length_range] at U
 obtain ⟨y,G,I⟩:=ao.get j (List.getElem?_eq_getElem (show i < T.length by omega))
 refine ⟨y,G, ?_⟩
 rw [← xY (List.getElem?_eq_getElem (show i < T.length by omega))] at I
 clear J G j
 induction l with
 | nil=>trivial
 | cons p l a0=>
  unfold lY
  cases N:(p.1==i) with
  | true=>
   rw [beq_iff_eq] at N
   subst N
   exact h p List.mem_cons_self y I
  | false=>exact a0 (fun q ab=>h q (List.mem_cons_of_mem _ ab))
end
end Go.V
noncomputable section
namespace Go.V
open Go Go.RowKit
section
variable {P : Program} {B0 : Nat → Prop} {w0 w : World} {F : Fr}
def bI (P:Program):bG→bG→Prop
 | .row c ty st, .row c' J I=>(c.len=c'.len∧∀ (α:Nat→Nat×Nat) (B:Nat→Prop) (w:World) (D:Nat→Prop) (j:List Value),ao P α B w c.a9 D j→ao P α B w c'.a9 D j)∧ty=J∧st=I
 | .loop r, .loop G=>r=G
 | _,_=>False
theorem bI.refl (k:bG):bI P k k:=by cases k <;> first | exact ⟨⟨rfl,fun _ _ _ _ _ h=>h⟩,rfl,rfl⟩ | exact rfl
theorem Ew {c c':aC} (h:c.a9=c'.a9):c.len=c'.len∧∀ (α:Nat→Nat×Nat) (B:Nat→Prop) (w:World) (D:Nat→Prop) (j:List Value),ao P α B w c.a9 D j→ao P α B w c'.a9 D j:=
 ⟨by rw [← aC.eK,← aC.eK,h],fun _ _ _ _ _ k=>by rw [← h];exact k⟩
theorem bI.live {k j:bG} (h:bI P k j):k.isLive=j.isLive∧k.jH=j.jH:=by
 cases k with
 | row c ty st=>
  cases j with
  | row c' I G=>
   obtain ⟨_,_,rfl⟩:=h
   cases st <;> exact ⟨rfl,rfl⟩
  | loop r=>exact h.elim
 | loop r=>
  cases j with
  | row c' I G=>exact h.elim
  | loop J=>exact ⟨rfl,rfl⟩
def aT (P:Program) (H j:Hp):Prop:=H.length=j.length∧∀ (i:Nat) (k G:bG),H[i]? =some k→j[i]? =some G→bI P k G
theorem aT.get {H j:Hp} (h:aT P H j) {i:Nat} {J:bG} (I:j[i]? =some J):∃ k,H[i]? =some k∧bI P k J:=by
 have G:i < H.length:=by rw [h.1];exact (List.getElem?_eq_some_iff.1 I).1
 exact ⟨H[i],List.getElem?_eq_getElem G,h.2 i _ _ (List.getElem?_eq_getElem G) I⟩
theorem aT.get' {H j:Hp} (h:aT P H j) {i:Nat} {k:bG} (I:H[i]? =some k):∃ J,j[i]? =some J∧bI P k J:=by
 have G:i < j.length:=by rw [← h.1];exact (List.getElem?_eq_some_iff.1 I).1
 exact ⟨j[i],List.getElem?_eq_getElem G,h.2 i _ _ I (List.getElem?_eq_getElem G)⟩
theorem abv {H S:Hp} (h:aT P H S) (D:Nat→Prop) (α:Nat→Nat×Nat):aQ D α (S[·]?)=aQ D α (H[·]?):=by
 funext b
 refine propext ⟨?_, ?_⟩
 ·rintro ⟨i,k,j,G,I,J⟩
  obtain ⟨O,M,N⟩:=h.get G
  exact ⟨i,O,j,M,by rw [N.live.1];exact I,J⟩
 ·rintro ⟨i,k,j,G,I,J⟩
  obtain ⟨O,M,N⟩:=h.get' G
  exact ⟨i,O,j,M,by rw [← N.live.1];exact I,J⟩
theorem abH {T:List AV} {H a0:Hp} (O:aT P H a0) {a:Act} (h:cv P B0 w0 F T (H[·]?) a w):cv P B0 w0 F T (a0[·]?) a w:=by
 obtain ⟨a7,D,α,I,bD,a6,bx⟩:=h
 have a1:=abv O D α
 have a2:Own B0 D α (a0[·]?)=Own B0 D α (H[·]?):=by unfold Own;rw [a1]
 refine ⟨a7,D,α, ⟨?_,I.below,I.cJ,by rw [a1];exact I.sep,I.fresh, ?_, ?_, ?_⟩,by rw [a2];exact bD,by rw [a1];exact a6,bx⟩
 ·intro i M
  obtain ⟨k,b1⟩:=I.lt i M
  obtain ⟨J,G,_⟩:=O.get' b1
  exact ⟨J,G⟩
 ·intro i b2 k l M b0 G N U Z a3
  obtain ⟨J,S,j⟩:=O.get G
  obtain ⟨b3,a5,b6⟩:=O.get N
  rw [← j.live.1] at U
  rw [← b6.live.1] at Z
  exact I.inj i b2 J b3 M b0 S a5 U Z a3
 ·intro i k M G N
  obtain ⟨J,S,j⟩:=O.get G
  rw [← j.live.2] at N
  rw [a2]
  exact I.cV i J M S N
 ·intro i k M G
  obtain ⟨J,S,j⟩:=O.get G
  rw [a2]
  have ab:=I.cN i J M S
  cases J with
  | row c ty st=>
   cases k with
   | row c' b8 b7=>
    obtain ⟨⟨a4,b4⟩,rfl,rfl⟩:=j
    rcases ab with ab | ⟨cs,fr,G,N,U,Z,a3⟩
    ·exact .inl ab
    ·exact .inr ⟨cs,fr,G,N,U,by rw [← a4];exact Z,by rw [← a4];exact b4 _ _ _ _ _ a3⟩
   | loop r=>exact j.elim
  | loop r=>
   cases k with
   | row c' b8 b7=>exact j.elim
   | loop b5=>
    have j:r=b5:=j
    subst j
    exact ab
theorem aT.nil:aT P [] []:= ⟨rfl,fun i k j h=>by cases h⟩
theorem aT.cons {k M:bG} {H j:Hp} (h:bI P k M) (J:aT P H j):aT P (k :: H) (M :: j):=by
 refine ⟨by rw [List.length_cons,List.length_cons,J.1],fun i l N G I=> ?_⟩
 cases i with
 | zero=>cases G;cases I;exact h
 | succ i=>exact J.2 i l N G I
theorem Ends.cS {n:Nat} {c:Code} {T:List AV} {H G:Hp} {e:Ex} {I:List AV} {j:Hp} (h:Ends P false n 0 c T G e I j) (S:aT P H G):Ends P false n 0 c T H e I j:=
 ⟨h.len,fun q ab=>by omega,fun ro O B0 w0 F Q Z N J M a w U=>h.wp ro O B0 w0 F Q Z N J M a w (abH S U)⟩
theorem aw.cS {c:Code} {T:List AV} {H G:Hp} {e:Ex} {I:List AV} {j:Hp} (h:aw P c T G e I j) (J:aT P H G):aw P c T H e I j:=by
 obtain ⟨n,h⟩:=h
 cases h with
 | last h M=>exact ⟨0, .last (h.cS J) M⟩
 | more h k=>exact ⟨_, .more (h.cS J) k⟩
end
def aS:Value→Value→Value→Bool
 | .bool _, .string _, .string _=>true
 | _,_,_=>false
theorem fe {x y z:Value} (h:aS x y z=true):x= .bool (aM x)∧y= .string (ah y)∧z= .string (ah z):=by
 unfold aS at h
 split at h
 ·exact ⟨rfl,rfl,rfl⟩
 ·cases h
def Bi (x y z:Value):AV:= .agg [.val (.bool (aM x)), .val (.string (ah y)), .val (.string (ah z))]
def Bj (x y z u v t:Value):AV:= .agg [.val (.bool (aM x)), .val (.string (ah y)), .val (.string (ah z)), .val (.bool (aM u)), .val (.string (ah v)), .val (.string (ah t))]
def p7 (c:Bool):Option (Bool×AV)→Option (Bool×AV)
 | some r=>some (c&&r.1,r.2)
 | none=>none
theorem wz {c:Bool} {o:Option (Bool×AV)} {r:AV} (h:p7 c o=some (true,r)):c=true∧o=some (true,r):=by
 cases o with
 | none=>cases h
 | some q=>
  simp only [p7,Option.some.injEq,Prod.mk.injEq,Bool.and_eq_true] at h
  obtain ⟨⟨j,G⟩,I⟩:=h
  refine ⟨j, ?_⟩
  rw [← G,← I]
def gR (f:List AV→Option (Bool×AV)):List AV→Option (Bool×AV):=fun args=>match args with
 | .agg [.val x, .val y, .val z] :: l=>p7 (aS x y z) (f (Bi x y z :: l))
 | _=>none
def bM (f:List AV→Option (Bool×AV)):List AV→Option (Bool×AV):=fun args=>match args with
 | .agg [.val x, .val y, .val z] :: .agg [.val u, .val v, .val t] :: l=>p7 (aS x y z&&aS u v t) (f (Bi x y z :: Bi u v t :: l))
 | _=>none
def gP (f:List AV→Option (Bool×AV)):List AV→Option (Bool×AV):=fun args=>match args with
 | .agg [.val x, .val y, .val z, .val u, .val v, .val t] :: l=>p7 (aS x y z&&aS u v t) (f (Bj x y z u v t :: l))
 | _=>none
def gD (f:List AV→Option (Bool×AV)):List AV→Option (Bool×AV):=fun args=>match args with
 | .agg [.val x, .val y, .val z, .val u, .val v, .val t] :: .agg [.val I, .val J, .val z2, .val G, .val v2, .val j] :: l=>p7 (aS x y z&&aS u v t&&(aS I J z2&&aS G v2 j)) (f (Bj x y z u v t :: Bj I J z2 G v2 j :: l))
 | _=>none
section
variable {P : Program} {g : FuncId} {f : List AV → Option (Bool × AV)}
theorem Entry.less {j:List AV→Option (Bool×AV)} (h:Entry P g f) (G:∀ args r,j args=some (true,r)→f args=some (true,r)):Entry P g j:=fun args r I=>h args r (G args r I)
theorem Entry.gR (h:Entry P g f):Entry P g (gR f):=h.less fun args r j=>by
 unfold V.gR at j
 split at j
 ·obtain ⟨M,N⟩:=wz j
  obtain ⟨G,I,J⟩:=fe M
  rw [G,I,J];exact N
 ·cases j
theorem Entry.bM (h:Entry P g f):Entry P g (bM f):=h.less fun args r j=>by
 unfold V.bM at j
 split at j
 ·obtain ⟨G,U⟩:=wz j
  rw [Bool.and_eq_true] at G
  obtain ⟨I,J,M⟩:=fe G.1
  obtain ⟨N,O,S⟩:=fe G.2
  rw [I,J,M,N,O,S];exact U
 ·cases j
theorem Entry.gP (h:Entry P g f):Entry P g (gP f):=h.less fun args r j=>by
 unfold V.gP at j
 split at j
 ·obtain ⟨G,U⟩:=wz j
  rw [Bool.and_eq_true] at G
  obtain ⟨I,J,M⟩:=fe G.1
  obtain ⟨N,O,S⟩:=fe G.2
  rw [I,J,M,N,O,S];exact U
 ·cases j
theorem Entry.gD (h:Entry P g f):Entry P g (gD f):=h.less fun args r G=>by
 unfold V.gD at G
 split at G
 ·obtain ⟨j,a3⟩:=wz G
  rw [Bool.and_eq_true,Bool.and_eq_true,Bool.and_eq_true] at j
  obtain ⟨U,Z,ab⟩:=fe j.1.1
  obtain ⟨a0,a1,a2⟩:=fe j.1.2
  obtain ⟨I,J,M⟩:=fe j.2.1
  obtain ⟨N,O,S⟩:=fe j.2.2
  rw [U,Z,ab,a0,a1,a2,I,J,M,N,O,S];exact a3
 ·cases G
end
def ag (sz:Nat) (vs:List Value):Nat→Nat→AV:=fun j q=> .val (vs.getD (j*sz+q) undef)
theorem NA {sz m:Nat} {f:Nat→Nat→AV} (h:au sz m f=true) {j q:Nat} (S:j < m) (N:q < sz):f j q=ag sz (af sz m f) j q:=by
 have M:j*sz+q < m*sz:=by
  have:(j+1)*sz≤m*sz:=Nat.mul_le_mul_right _ S
  rw [Nat.add_mul,Nat.one_mul] at this
  omega
 have I:(j*sz+q) / sz=j:=by rw [Nat.mul_comm,Nat.mul_add_div (by omega),Nat.div_eq_of_lt N,Nat.add_zero]
 have J:(j*sz+q) % sz=q:=by rw [Nat.mul_comm,Nat.mul_add_mod,Nat.mod_eq_of_lt N]
 have G:=List.all_eq_true.1 h (j*sz+q) (List.mem_range.2 M)
 rw [I,J] at G
 unfold ag af
 rw [List.getD_eq_getElem?_getD,List.getElem?_map,List.getElem?_range M,Option.map_some,Option.getD_some,I,J]
 cases O:f j q with
 | val v=>rfl
 | _=>rw [O] at G;exact absurd G (by simp [isVal])
theorem kU {P:Program} {t:TypeId} {sz m:Nat} {f:Nat→Nat→AV} {fl:Bool} {α:Nat→Nat×Nat} {B:Nat→Prop} {w:World} {D:Nat→Prop} {x:Value} (S:P.cellsOf t=sz) (h:au sz m f=true) (U:(AV.lst fl t m f).Rel P α B w D x):(AV.lst false t m (ag sz (af sz m f))).Rel P α B w D x:=by
 obtain ⟨A,cap,N,O,a3,j⟩:=U
 refine ⟨A,cap,N,O,(fun h=>by cases h), ?_⟩
 rcases j with j | ⟨b,o,cs,ty,fr,ab,a0,a1,a2⟩
 ·exact .inl j
 ·refine .inr ⟨b,o,cs,ty,fr,ab,a0,a1,fun Z k I G=> ?_⟩
  obtain ⟨y,J,M⟩:=a2 Z k I G
  refine ⟨y,J, ?_⟩
  rw [S] at G
  rw [← NA h I G]
  exact M
theorem aaY {P:Program} {t:TypeId} {sz m:Nat} {f:Nat→Nat→AV} {fl:Bool} {α:Nat→Nat×Nat} {B:Nat→Prop} {w:World} {D:Nat→Prop} {x:Value} (O:P.cellsOf t=sz) (h:au sz m f=true) (S:(AV.lst fl t m f).Rel P α B w D x):(AV.lst fl t m (ag sz (af sz m f))).Rel P α B w D x:=by
 obtain ⟨A,cap,j,I,J,N⟩:=S
 obtain ⟨U,Z,G,_,_,M⟩:=kU (D:=D) O h (⟨A,cap,j,I,J,N⟩:(AV.lst fl t m f).Rel P α B w D x)
 rw [j] at G
 cases G
 exact ⟨A,cap,j,I,J,M⟩
theorem aam {P:Program} {t:TypeId} {sz m:Nat} {f:Nat→Nat→AV} {fl:Bool} {y:AV} {α:Nat→Nat×Nat} {B:Nat→Prop} {w:World} {D:Nat→Prop} {j:List Value} (J:P.cellsOf t=sz) (h:au sz m f=true) (M:ao P α B w [.lst fl t m f,y] D j):ao P α B w [.lst fl t m (ag sz (af sz m f)),y] D j:=by
 obtain ⟨v,zs,rfl,G,I⟩:=M
 exact ⟨v,_,rfl,aaY J h G,I⟩
theorem ei {P:Program} {t u:TypeId} {sz j m n:Nat} {f g:Nat→Nat→AV} {fl I:Bool} (O:P.cellsOf t=sz) (S:P.cellsOf u=j) (h:au sz m f=true) (k:au j n g=true) {α:Nat→Nat×Nat} {B:Nat→Prop} {w:World} {D:Nat→Prop} {G:List Value} (U:ao P α B w [.lst fl t m f, .lst I u n g] D G):ao P α B w [.lst false t m (ag sz (af sz m f)), .lst false u n (ag j (af j n g))] D G:=by
 obtain ⟨y,zs,rfl,J,z,Z,rfl,M,N⟩:=U
 exact ⟨y,_,rfl,kU O h J,z,_,rfl,kU S k M,N⟩
end Go.V
end
