import Derived.Test.YtamcpiicmfielaaGreatZV1
import Derived.Lib.Builder
import Derived.Lib.UnsafeStr
import Derived.Laws.Externs
import Derived.RangeFuncSeq
import Derived.Scope
set_option linter.unusedVariables false
set_option linter.unusedSimpArgs false
namespace Go.V
open Go Go.RowKit
section
variable {R : Type} {P : Program} {ro : Option Nat} {T : List AV} {o : Oper} {H : Hp} {lo : Nat} {k : Kn R} {r : R}
theorem step_append {E:Env} {c:Call} (Z:o.op= .call c) (O:c.callee= .builtin .append) (h:ED P lo T c.args.toList c.argTypes.toList H k=some r):ba P ro T o H (fi E T H c) lo k r:=by
 unfold ED at h
 split at h
 ·rename_i s x ts tx ha ab
  have ez:fi E T H c= .some false (tid true (aB T s) ++ tid false (aB T x)):=by
   unfold fi
   rw [O]
   simp only [ha]
  rw [ez]
  cases hint:xY P tx
  case true=>rw [hint,cond_true] at h;exact ach Z O ha ab hint h
  rw [hint,cond_false] at h
  unfold IY at h
  split at h
  ·rename_i e ev
   have a6:=vE ev
   simp only [Bool.cond_eq_ite] at h
   split at h
   ·rename_i ea
    rw [Bool.and_eq_true] at ea
    obtain ⟨a1,bx⟩:=ea
    obtain ⟨cx,n,h,ct,a7⟩:=Oa h
    unfold IZ at h
    simp only [Bool.cond_eq_ite] at h
    split at h
    ·-- to nil
     rename_i M
     have b5:∀ j,(j,true) ∈ tid true (aB T s)→j < H.length:=fun j J=>by rw [M] at J;simp [tid] at J
     unfold IV at h
     simp only [Bool.cond_eq_ite] at h
     split at h
     ·rename_i G
      have G:=of_decide_eq_true G
      subst G
      exact EW Z O ha ab a6 a1 bx h a7 b5 (fun {D α B w u} I=>by rw [M] at I;exact ⟨none,0,0,I,Nat.le_refl _⟩)
     ·rename_i G
      have G:n≠0:=fun e=>G (decide_eq_true e)
      split at h
      ·rename_i b0
       split at h
       ·rename_i c' bD
        obtain ⟨b1,b3⟩:=wK bD (Nat.zero_le _)
        refine EV (m:=0) Z O ha ab a6 a1 bx (c':=c') (cx:=cx) (by rw [Nat.zero_add];exact b0) G (by rw [Nat.zero_add];exact h) a7 (by rw [b3,ct,Nat.zero_add,Nat.zero_add]) b5 (fun {B0 w0 D α c0 w u} c3 ch I=> ?_)
        rw [M] at I
        exact ⟨none,0, [], [],I,rfl,by simp,by rw [b1];rfl,rfl,fun w2 _=>by rw [show u= .slice none 0 0 from I];exact qO w2⟩
       ·cases h
      ·cases h
    ·-- to a slice of its own
     rename_i fl e3 i off len M
     split at h
     ·rename_i b6
      rw [beq_iff_eq] at b6
      subst b6
      unfold IW at h
      simp only [Bool.cond_eq_ite] at h
      split at h
      ·rename_i aE ty st b7
       have et:=(List.getElem?_eq_some_iff.1 b7).1
       have ed:∀ j,(j,true) ∈ tid true (aB T s)→j < H.length:=fun j J=>by rw [M] at J;simp [tid] at J;omega
       split at h
       ·rename_i dy
        simp only [Bool.and_eq_true,decide_eq_true_eq,beq_iff_eq] at dy
        obtain ⟨⟨⟨⟨⟨rfl,rfl⟩,rfl⟩,ec⟩,b0⟩,eu⟩:=dy
        split at h
        ·rename_i c' bD
         obtain ⟨b1,b3⟩:=wK bD ec
         split at h
         ·rename_i b4
          subst b4
          split at h
          ·rename_i G
           have G:=of_decide_eq_true G
           subst G
           refine EW Z O ha ab a6 a1 bx h a7 ed (fun {D α B w u} I=> ?_)
           rw [M] at I
           obtain ⟨_,cap,eN,U,b2,_⟩:=I
           exact ⟨_,_,_,U,b2⟩
          ·rename_i G
           have G:n≠0:=fun e=>G (decide_eq_true e)
           refine EV (m:=len) Z O ha ab a6 a1 bx (c':=c') (cx:=cx) b0 G h a7 (by rw [b3,ct,Nat.add_mul]) ed (fun {B0 w0 D α c0 w u} c3 ch I=> ?_)
           rw [M] at I
           obtain ⟨eh,cap,eN,U,b2,b4,c4⟩:=I
           have eg:c0 i=some (.row aE ty .live):=(c3 i true (by rw [M];simp [tid]) et).trans b7
           obtain ⟨cs,fr,e1,e4,e5,e6,c7⟩:=ig ch eh eg rfl
           have en:=aj.len c7
           rw [List.length_take,Array.length_toList,an.eZ] at en
           have eb:((cs.toList.take aE.len).take (len*P.cellsOf ty)).length=len*P.cellsOf ty:=by
            rw [List.length_take,List.length_take,Array.length_toList];omega
           refine ⟨_,cap,(cs.toList.take aE.len).take (len*P.cellsOf ty),aE.aW.take (len*P.cellsOf ty),U,b4 rfl,eb,b1,aj.take c7 _,fun w2 c6=> ?_⟩
           rw [U]
           by_cases eo:len=0
           ·subst eo
            rw [qO w2]
            simp
           ·rcases c4 with c4 | ⟨rfl,c4⟩
            ·omega
            ·refine xP eb (fun j y J=> ?_) w2 c6
             rw [List.getElem?_take] at J
             split at J
             ·rw [List.getElem?_take] at J
              split at J
              ·rw [Array.getElem?_toList] at J
               rw [fH,me e1,Nat.zero_add]
               exact J
              ·cases J
             ·cases J
         ·split at h
          ·cases h
          ·rename_i ep
           exact ab1 Z O ha ab a6 a1 bx b0 M b7 (fun h=>ep (decide_eq_true h)) ec eu bD h a7
        ·cases h
       ·cases h
      ·cases h
     ·cases h
    ·-- to a row that has no room
     rename_i fl e3 m f M
     have b5:∀ j,(j,true) ∈ tid true (aB T s)→j < H.length:=fun j J=>by rw [M] at J;simp [tid] at J
     split at h
     ·rename_i b6
      rw [Bool.and_eq_true,beq_iff_eq] at b6
      obtain ⟨rfl,rfl⟩:=b6
      unfold IU at h
      simp only [Bool.cond_eq_ite] at h
      split at h
      ·rename_i G
       have G:=of_decide_eq_true G
       subst G
       refine EW Z O ha ab a6 a1 bx h a7 b5 (fun {D α B w u} I=> ?_)
       rw [M] at I
       obtain ⟨A,cap,U,b2,_⟩:=I
       exact ⟨_,_,_,U,b2⟩
      ·rename_i G
       have G:n≠0:=fun e=>G (decide_eq_true e)
       split at h
       ·rename_i b0
        obtain ⟨aE,dx,h⟩:=NM h
        ·split at h
         ·rename_i c' bD
          have ek:aE.len=m*P.cellsOf e:=by rw [← an.eZ,Ek dx,Ct]
          obtain ⟨b1,b3⟩:=wK bD (by omega)
          refine EV (m:=m) Z O ha ab a6 a1 bx (c':=c') (cx:=cx) b0 G h a7 (by rw [b3,ct,Nat.add_mul]) b5 (fun {B0 w0 D α c0 w u} c3 ch I=> ?_)
          rw [M] at I
          obtain ⟨e2,c5⟩:=NP dx I
          obtain ⟨A,cap,U,b2,b4,_⟩:=I
          refine ⟨A,cap,e2,aE.aW.take (m*P.cellsOf e),U,b4 rfl,c5.len,b1, ?_,fun w2 c6=>c5.cells w2 c6⟩
          rw [List.take_of_length_le (by rw [an.eZ,ek];exact Nat.le_refl _)]
          exact c5.rel
         ·cases h
       ·cases h
     ·cases h
    ·cases h
   ·cases h
  ·cases h
 ·cases h
theorem vH {v:AV} {b:bI} {l:List (Nat×Bool)} (I:k v (H ++ [b])=some r) (U:∀ m,(m,true) ∉ l) (M:∀ c,o.op≠ .defer c) (J:b.isLive=true)
  (O:∀ (B0:Nat→Prop) (w0:World) (h:Hf) (D:Nat→Prop) (α:Nat→Nat×Nat) (a:Act) (w:World),(∀ m b,(m,b) ∈ l→m < H.length→h m=H[m]?)→Ok P B0 w0 D α h w→(∀ x ∈ o.op.operands,(aB T x).Rel P α (Own B0 D α h) w D (a.eval x))→
   ∃ (w1:World) (G:Obj) (sz:Nat) (x:Value),bm w.heap.size w w1∧(∀ ds,G≠ .deferred ds)∧(execOp a.eval o).run P w= .ok (.value x) (w1.alloc G)∧
    (∀ D' α' B' w',eY D D' α α' (Own B0 D α h) B' w w'→w'.heap[w1.heap.size]? =some G→cO P α' B' w' D' b (w1.heap.size,sz))∧
    (∀ D' α' B' w',D' H.length→α' H.length=(w1.heap.size,sz)→v.Rel P α' B' w' D' x)):
  ba P ro T o H (.some false l) lo k r:=
 ⟨v,_,I,fun Z m ab=>List.getElem?_append_left (by omega),fun B0 w0=>CF (fun m h=>absurd h (U m)) M J (O B0 w0)⟩
theorem El {D:Nat→Prop} {α:Nat→Nat×Nat} {B:Nat→Prop} {w:World} {c:an} {cs:Array Value} {e:TypeId} {b sz:Nat} (M:w.heap[b]? =some (.cells cs e)) (J:cs.size=sz) (G:aj P α B w c.aW D cs.toList):cO P α B w D (.row c e .live) (b,sz):=by
 have I:=aj.len G
 rw [Array.length_toList,an.eZ] at I
 refine .inr ⟨cs,(0,0),M,J,fun _ i _=>by simp,by omega, ?_⟩
 rw [List.take_of_length_le (by rw [Array.length_toList];omega)]
 exact G
theorem Mi (I:Option IntKind) (l:List AV):(mG I l).aW=l:=by
 unfold mG
 split
 ·split
  ·rename_i zs G;exact (qH G).symm
  ·rfl
 ·rfl
theorem ab0 {G:TypeId} (I:o.op= .alloc G) (h:EC P G H k=some r):ba P ro T o H (.some false []) lo k r:=by
 unfold EC at h
 split at h
 ·rename_i l M
  obtain ⟨i,z,hi,U,rfl,a7,_⟩:=qg M
  refine vH h (fun m h=>by simp at h) (fun c h=>by rw [I] at h;cases h) rfl (fun B0 w0 a1 D α a w a6 ab aE=> ?_)
  refine ⟨w, .cells z.cells G,z.cells.size, .pointer (some ⟨w.heap.size,0,none⟩),bm.refl _ _,fun ds=>by simp, ?_,fun D' α' B' w' _ O=>El O rfl ?_,fun D' α' B' w' J Z=> ⟨J,by rw [Z]⟩⟩
  ·unfold execOp
   rw [I]
   simp [Instr.alloc,zeroValue,typeInfo,hi,U,newVar,newRow,Sem.run_bind,Result.andThen]
  ·have:(GM P G (z.cells.toList.map .val)).aW=z.cells.toList.map .val:=by
    unfold GM
    split
    ·exact Mi _ _
    ·rfl
   rw [this]
   exact aj.vals _
 ·cases h
theorem ab4 {G:TypeId} {x:Operand} (I:o.op= .box G x) (h:EG G (aB T x) H k=some r):ba P ro T o H (.some false []) lo k r:=by
 unfold EG at h
 split at h
 ·rename_i l U
  simp only [Bool.cond_eq_ite] at h
  split at h
  ·refine vH h (fun m h=>by simp at h) (fun c h=>by rw [I] at h;cases h) rfl (fun B0 w0 a6 D α a w a7 a1 M=> ?_)
   have ab:=M x (by rw [I];simp [Op.operands])
   refine ⟨w, .cells (a.eval x).cells G,(a.eval x).cells.size, .pointer (some ⟨w.heap.size,0,none⟩),bm.refl _ _,fun ds=>by simp, ?_,fun D' α' B' w' O Z=>El Z rfl (BP U (AV.Rel.mono _ _ O ab)),fun D' α' B' w' J aE=> ⟨J,by rw [aE]⟩⟩
   unfold execOp;rw [I];rfl
  ·cases h
 ·cases h
end
end Go.V
namespace Go.V
open Go Go.RowKit
theorem Ku (off:Nat):∀ (l:List Value) (i:Nat) (cs:Array Value),off+i+l.length≤cs.size→((l.zipIdx i).foldl (fun cs (p:Value×Nat)=>cs.setIfInBounds (off+p.2) p.1) cs).toList=cs.toList.take (off+i) ++ l ++ cs.toList.drop (off+i+l.length)
 | [],i,cs,h=>by simp
 | v :: l,i,cs,h=>by
  rw [List.length_cons] at h
  rw [List.zipIdx_cons,List.foldl_cons,Ku off l (i+1) _ (by rw [Array.size_setIfInBounds];omega),Array.toList_setIfInBounds]
  have I:off+i < cs.toList.length:=by rw [Array.length_toList];omega
  have e1:(cs.toList.set (off+i) v).take (off+(i+1))=cs.toList.take (off+i) ++ [v]:=by
   rw [← Nat.add_assoc,List.take_add_one,List.take_set_of_le (Nat.le_refl _),List.getElem?_set_self I]
   rfl
  have G:(cs.toList.set (off+i) v).drop (off+(i+1)+l.length)=cs.toList.drop (off+i+(v :: l).length):=by
   rw [List.drop_set_of_lt (by omega),List.length_cons]
   congr 1
   omega
  rw [e1,G,List.append_assoc (cs.toList.take (off+i)) [v] l]
  rfl
section
variable {P : Program} {D : Nat → Prop} {α : Nat → Nat × Nat} {B : Nat → Prop} {w : World}
def sD (P:Program) (α:Nat→Nat×Nat) (B:Nat→Prop) (w:World) (D:Nat→Prop):List (Nat×AV)→List (Nat×Value)→Prop
 | [],G=>G= []
 | p :: ps,G=>∃ y zs,G=(p.1,y) :: zs∧p.2.Rel P α B w D y∧sD P α B w D ps zs
theorem De {T:List AV} {a:Act} :∀ (l:List (Nat×Operand)),(∀ p ∈ l,(aB T p.2).Rel P α B w D (a.eval p.2))→sD P α B w D (l.map fun p=>(p.1,aB T p.2)) (l.map fun p=>(p.1,a.eval p.2))
 | [],_=>rfl
 | p :: l,h=> ⟨_,_,rfl,h p List.mem_cons_self,De l (fun q G=>h q (List.mem_cons_of_mem _ G))⟩
theorem xN {a6 place':Nat→Option (Nat×Nat)} (aE:∀ i x,a6 i=some x→place' i=some x):∀ (ps:List (Nat×AV)) (cells:List AV) {l:List AV},nJ a6 cells ps=some l→∀ (J:List (Nat×Value)) (cs:Array Value),sD P α B w D ps J→aj P α B w cells D cs.toList→∃ G,Instr.fill place' cs J=some G∧aj P α B w l D G.toList∧G.size=cs.size
 | [],cells,l,h,J,cs,M,I=>by cases h;rw [show J= [] from M];exact ⟨cs,rfl,I,rfl⟩
 | (i,v) :: ps,cells,l,h,J,cs,M,I=>by
  obtain ⟨y,zs,rfl,bD,b0⟩:=M
  unfold nJ at h
  split at h
  ·rename_i off sz ct b3 b5
   simp only [Bool.cond_eq_ite] at h
   split at h
   ·rename_i O
    rw [Bool.and_eq_true,Bool.and_eq_true,beq_iff_eq,decide_eq_true_eq] at O
    obtain ⟨⟨ch,b6⟩,b7⟩:=O
    have a1:=BP b5 bD
    have ab:=aj.len a1
    rw [Array.length_toList] at ab
    have b1:=aj.len I
    rw [Array.length_toList] at b1
    have Z:=Ku off y.cells.toList 0 cs (by rw [Array.length_toList,Nat.add_zero];omega)
    have U:(y.cells.zipIdx.foldl (fun cs (p:Value×Nat)=>cs.setIfInBounds (off+p.2) p.1) cs).toList=cs.toList.take off ++ y.cells.toList ++ cs.toList.drop (off+y.cells.size):=by
     rw [← Array.foldl_toList,Array.toList_zipIdx]
     rw [Nat.add_zero,Array.length_toList] at Z
     exact Z
    obtain ⟨G,e1,a7,bx⟩:=xN aE ps _ h zs (y.cells.zipIdx.foldl (fun cs (p:Value×Nat)=>cs.setIfInBounds (off+p.2) p.1) cs) b0 (by
     rw [U,ab]
     exact aj.append (aj.append (aj.take I _) a1) (aj.drop I _))
    have b4:(y.cells.zipIdx.foldl (fun cs (p:Value×Nat)=>cs.setIfInBounds (off+p.2) p.1) cs).size=cs.size:=by
     have:=congrArg List.length U
     simp only [Array.length_toList,List.length_append,List.length_take,List.length_drop] at this
     omega
    refine ⟨G, ?_,a7,by rw [bx,b4]⟩
    unfold Instr.fill
    rw [aE i _ b3]
    have b2:¬ (y.cells.size≠sz ||decide (off+y.cells.size > cs.size))=true:=by
     simp;omega
    simp only [b2]
    exact e1
   ·cases h
  ·cases h
end
section
variable {R : Type} {P : Program} {ro : Option Nat} {T : List AV} {o : Oper} {H : Hp} {lo : Nat} {k : Kn R} {r : R}
theorem run_places {w:World} :∀ (G:List Field),G.all (fun f=>(P.info? f.type).isSome)=true→(G.mapM fun f=>do pure (f.offset,← sizeOf f.type):Sem (List (Nat×Nat))).run P w= .ok (G.map fun f=>(f.offset,P.cellsOf f.type)) w
 | [],_=>rfl
 | f :: G,h=>by
  rw [List.all_cons,Bool.and_eq_true] at h
  obtain ⟨i,hi⟩:=Option.isSome_iff_exists.1 h.1
  rw [List.mapM_cons]
  simp only [Sem.run_bind,run_sizeOf w hi,Result.andThen,Sem.run_pure,run_places G h.2,List.map_cons]
theorem xM {G:Nat→Option (Nat×Nat)} {k:List AV→Option R} {r:R} :∀ (ps:List (Nat×AV)) (cells:List AV),qN G cells ps k=some r→∃ l,nJ G cells ps=some l∧k l=some r
 | [],cells,h=> ⟨cells,rfl,h⟩
 | (i,v) :: ps,cells,h=>by
  unfold qN at h
  unfold nJ
  split at h
  ·rename_i off sz l I J
   first | rw [I,J] | skip
   simp only [Bool.cond_eq_ite] at h ⊢
   split at h
   ·rename_i M
    rw [if_pos M]
    exact xM ps _ h
   ·cases h
  ·cases h
theorem Sf {t:TypeId} {M:List (Nat×AV)} (h:y7 P t M H k=some r):∃ l,BG P t M=some l∧k (.agg l) H=some r:=by
 unfold y7 at h
 unfold BG
 split at h
 ·rename_i z O G I
  first | rw [G,I] | skip
  simp only [Bool.cond_eq_ite] at h ⊢
  split at h
  ·rename_i J
   rw [if_pos J]
   exact xM _ _ h
  ·cases h
 ·rename_i z n e G I
  first | rw [G,I] | skip
  simp only [Bool.cond_eq_ite] at h ⊢
  split at h
  ·rename_i J
   rw [if_pos J]
   exact xM _ _ h
  ·cases h
 ·cases h
theorem ab5 {t:TypeId} {I:Array (Nat×Operand)} (M:o.op= .build t I) (h:y7 P t (qM T I) H k=some r):ba P ro T o H (.some false []) lo k r:=by
 obtain ⟨l,G,h⟩:=Sf h
 refine fg h (fun c h=>by rw [M] at h;cases h) (fun D α B a w bD=> ?_)
 have a7:sD P α B w D (qM T I) (I.toList.map fun p=>(p.1,a.eval p.2)):=De _ (fun p b3=>bD p.2 (by
  rw [M]
  simp only [Op.operands,List.mem_toArray]
  exact List.mem_map.2 ⟨p,b3,rfl⟩))
 have bx:(I.map fun (x:Nat×Operand)=>(x.1,a.eval x.2)).toList=I.toList.map fun p=>(p.1,a.eval p.2):=Array.toList_map
 unfold BG at G
 simp only [Bool.cond_eq_ite] at G
 split at G
 ·rename_i z a6 ab Z
  obtain ⟨i,a1,hi,aE,rfl,b4,_⟩:=qg ab
  split at G
  ·rename_i b0
   obtain ⟨J,e1,U,_⟩:=xN (P:=P) (place':=fun i=>((a6.toList.map fun f=>(f.offset,P.cellsOf f.type)).toArray)[i]?) (fun i x O=>by
    unfold fieldPlace at O
    simpa using O) _ _ G _ a1.cells a7 (aj.vals _)
   refine ⟨.agg J, ?_,J,rfl,U⟩
   unfold execOp
   rw [M]
   simp only [Instr.build,Sem.run_bind,zeroValue,typeInfo,run_program,hi,Result.andThen,Sem.run_pure,aE,run_underlying Z,Array.mapM_eq_mapM_toList,Sem.run_map]
   erw [run_places a6.toList b0]
   simp only [Result.andThen]
   erw [bx,e1]
   rfl
  ·cases G
 ·rename_i z n e ab Z
  obtain ⟨i,a1,hi,aE,rfl,b4,_⟩:=qg ab
  split at G
  ·rename_i b2
   obtain ⟨b5,b1⟩:=Option.isSome_iff_exists.1 b2
   obtain ⟨J,e1,U,_⟩:=xN (P:=P) (place':=fun i=>some (i*P.cellsOf e,P.cellsOf e)) (fun i x O=>O) _ _ G _ a1.cells a7 (aj.vals _)
   refine ⟨.agg J, ?_,J,rfl,U⟩
   unfold execOp
   rw [M]
   simp only [Instr.build,Sem.run_bind,zeroValue,typeInfo,run_program,hi,Result.andThen,Sem.run_pure,aE,run_underlying Z,run_sizeOf w b1]
   erw [bx,e1]
   rfl
  ·cases G
 ·cases G
end
end Go.V
namespace Go.V
open Go Go.RowKit
theorem C3 (z:Array Value):∀ n,(madeCells z (n*z.size)).toList=(List.replicate n z.toList).flatten
 | 0=>by simp [madeCells]
 | n+1=>by
  have G:=C3 z n
  unfold madeCells at G ⊢
  rw [Array.toList_map,Array.toList_range] at G ⊢
  rw [Nat.succ_mul,List.range_add,List.map_append,G,List.replicate_succ',List.flatten_append,List.flatten_singleton]
  congr 1
  rw [List.map_map]
  apply List.ext_getElem?
  intro i
  rw [List.getElem?_map]
  by_cases hi:i < z.size
  ·rw [List.getElem?_range hi,Array.getElem?_toList]
   simp only [Option.map_some,Function.comp]
   rw [Nat.add_comm,Nat.add_mul_mod_self_right,Nat.mod_eq_of_lt hi,Array.getElem?_eq_getElem hi,getElem!_pos z i hi]
  ·rw [List.getElem?_eq_none (by simp;omega),List.getElem?_eq_none (by simp;omega)]
   rfl
section
variable {R : Type} {P : Program} {ro : Option Nat} {T : List AV} {o : Oper} {H : Hp} {lo : Nat} {k : Kn R} {r : R}
theorem Pu {D:Nat→Prop} {α:Nat→Nat×Nat} {B:Nat→Prop} {w:World} (n:Nat) (z:List Value):aj P α B w (List.replicate n (z.map AV.val)).flatten D (List.replicate n z).flatten:=by
 have:(List.replicate n (z.map AV.val)).flatten=((List.replicate n z).flatten).map AV.val:=by rw [List.map_flatten,List.map_replicate]
 rw [this]
 exact aj.vals _
theorem Se {t:TypeId} {n:Nat} {G:List (Nat×AV)} (h:y8 P t n G H k=some r):∃ e l,ky P t=some e∧BH P e n G=some l∧k (.sl true e H.length 0 n) (H ++ [.row (mG (intKind P e) l) e .live])=some r:=by
 unfold y8 at h
 split at h
 ·rename_i e I
  refine ⟨e, ?_⟩
  unfold BH
  split at h
  ·rename_i z J
   first | rw [J] | skip
   simp only [Bool.cond_eq_ite] at h ⊢
   split at h
   ·rename_i U
    rw [if_pos U]
    obtain ⟨l,M,O⟩:=xM _ _ h
    exact ⟨l,I,M,O⟩
   ·cases h
  ·cases h
 ·cases h
theorem ab6 {t : TypeId} {n : Nat} {J : Array (Nat × Operand)} (U : o.op = .buildSlice t n J) (h : y8 P t n (qM T J) H k = some r) : ba P ro T o H (.some false []) lo k r := by
  obtain ⟨e, l, b7, I, h⟩ := Se h
  have b6 := vE b7
  refine vH h (fun m h => by simp at h) (fun c h => by rw [U] at h; cases h) rfl (fun B0 w0 b1 D α a w c5 c4 b0 => ?_)
  have b5 : sD P α (Own B0 D α b1) w D (qM T J) (J.toList.map fun p => (p.1, a.eval p.2)) := De _ (fun p b4 => b0 p.2 (by
    rw [U]
    simp only [Op.operands, List.mem_toArray]
    exact List.mem_map.2 ⟨p, b4, rfl⟩))
  have a1 : (J.map fun (x : Nat × Operand) => (x.1, a.eval x.2)).toList = J.toList.map fun p => (p.1, a.eval p.2) := Array.toList_map
  unfold BH at I
  simp only [Bool.cond_eq_ite] at I
  split at I
  · rename_i z c0
    obtain ⟨i, G, hi, c3, rfl, c7, _⟩ := qg c0
    split at I
    · rename_i aE
      rw [Bool.and_eq_true, Bool.and_eq_true, decide_eq_true_eq, beq_iff_eq, List.length_map, Array.length_toList] at aE
      obtain ⟨⟨_, c6⟩, Z⟩ := aE
      obtain ⟨ab, e1, a7, bx⟩ := xN (P := P) (place' := fun i => some (i * P.cellsOf e, P.cellsOf e)) (fun i x ct => ct) _ _ I _ (madeCells G.cells (n * G.cells.size)) b5 (by rw [C3]; exact Pu n _)
      refine ⟨w, .cells ab e, ab.size, .slice (some ⟨w.heap.size, 0, none⟩) n n, bm.refl _ _, fun ds => by simp, ?_, fun D' α' B' w' b2 ch => El ch rfl (by rw [Mi]; exact aj.mono _ _ b2 a7), fun D' α' B' w' bD a6 => ⟨bD, n, 0, by rw [a6], Nat.le_refl _, fun _ => rfl, .inr ⟨rfl, ?_⟩⟩⟩
      · unfold execOp
        rw [U]
        have b3 : ¬ (n * P.cellsOf e > 2 ^ 24) := by have : (2:Nat) ^ 24 = 16777216 := by decide
                                                     omega
        simp only [Instr.buildSlice, Sem.run_bind, run_underlying b6, Result.andThen, run_sizeOf w hi, b3, if_false, Sem.run_pure]
        by_cases M : n * P.cellsOf e = 0
        · have O : madeCells G.cells (n * G.cells.size) = (Array.range (n * P.cellsOf e)).map ((#[] : Array Value)[· % (#[] : Array Value).size]!) := by
            rw [Z, M]; simp [madeCells, Array.range_zero']
          rw [O] at e1
          simp only [M, if_true, Sem.run_bind, Sem.run_pure, Result.andThen]
          rw [M] at e1
          erw [a1, e1]
          rfl
        · have O : madeCells G.cells (n * G.cells.size) = (Array.range (n * P.cellsOf e)).map (fun x => G.cells[x % G.cells.size]!) := by
            rw [← Z]; rfl
          rw [O] at e1
          simp only [M, if_false, Sem.run_bind, zeroValue, typeInfo, run_program, hi, Result.andThen, Sem.run_pure, c3]
          erw [a1, e1]
          rfl
      · rw [a6, Nat.zero_add, bx, ← Z, size_madeCells]; exact Nat.le_refl _
    · cases I
  · cases I
theorem ac0 {β:Type} (z:List β) (l c sz:Nat) (G:z.length=sz) (h:l≤c):(List.replicate c z).flatten.take (l*sz)=(List.replicate l z).flatten:=by
 obtain ⟨d,rfl⟩:∃ d,c=l+d:= ⟨c - l,by omega⟩
 rw [← List.replicate_append_replicate,List.flatten_append]
 have:(List.replicate l z).flatten.length=l*sz:=by simp [G]
 rw [← this]
 exact List.take_left
theorem acn {t:TypeId} {l c:Operand} (O:o.op= .makeSlice t l c) (h:C4 P H t (aB T l) (aB T c) k=some r):ba P ro T o H (.some false []) lo k r:=by
 unfold C4 at h
 split at h
 ·rename_i e b5 J b4 G ec dx c7
  have eb:=vE ec
  simp only [Bool.cond_eq_ite] at h
  split at h
  ·rename_i a7
   simp only [Bool.and_eq_true,decide_eq_true_eq] at a7
   obtain ⟨⟨⟨ch,ct⟩,c0⟩,c3⟩:=a7
   split at h
   ·rename_i z _ eg
    obtain ⟨i,M,hi,eh,rfl,b0,c5⟩:=qg eg
    split at h
    ·rename_i ab I
     have ek:M.cells.size=P.cellsOf e∧ab.aW=(List.replicate J.toNat (M.cells.toList.map AV.val)).flatten:=by
      split at I
      ·rename_i eu ev et b1
       split at I
       ·rename_i U
        rw [Bool.and_eq_true,decide_eq_true_eq,beq_iff_eq] at U
        obtain ⟨rfl,c6⟩:=U
        cases I
        rw [b1]
        have ea:M.cells.size=1:=by
         have:=congrArg List.length b1
         rwa [List.length_map,Array.length_toList] at this
        refine ⟨?_, ?_⟩
        ·rw [ea,c6]
        ·simp [an.aW,List.map_replicate]
       ·cases I
      ·split at I
       ·rename_i bD
        cases I
        rw [beq_iff_eq,List.length_map,Array.length_toList] at bD
        exact ⟨bD,rfl⟩
       ·cases I
     obtain ⟨b2,a6⟩:=ek
     refine vH h (fun m h=>by simp at h) (fun c h=>by rw [O] at h;cases h) rfl (fun B0 w0 eo D α a w ep en a1=> ?_)
     have e1:=a1 l (by rw [O];simp [Op.operands])
     have aE:=a1 c (by rw [O];simp [Op.operands])
     rw [dx] at e1
     rw [c7] at aE
     have b6:a.eval l= .int b5 J:=e1
     have b7:a.eval c= .int b4 G:=aE
     have Z:J.toNat≤G.toNat:=by omega
     refine ⟨w, .cells (madeCells M.cells (G.toNat*i.size)) e,G.toNat*P.cellsOf e, .slice (some ⟨w.heap.size,0,none⟩) J.toNat G.toNat,bm.refl _ _,fun ds=>by simp, ?_,fun D' α' B' w' U ed=> ?_,fun D' α' B' w' c4 b3=> ⟨c4,G.toNat,0,by rw [b3],Z,(fun h=>by cases h), .inr ⟨rfl,by rw [b3,Nat.zero_add];exact Nat.le_refl _⟩⟩⟩
     ·unfold execOp
      rw [O]
      simp only [b6,b7,Sem.run_bind,run_make w t e i M eb hi eh b5 b4 J G ch ct (by rw [← c5];exact c0) c3,Result.andThen,Sem.run_pure]
     ·have dy:(madeCells M.cells (G.toNat*i.size)).size=G.toNat*P.cellsOf e:=by rw [size_madeCells,b0]
      have bx:ab.len=J.toNat*P.cellsOf e:=by
       rw [← an.eZ,a6];simp [b2]
      refine .inr ⟨_,_,ed,dy,fun _ j _=>by simp,by rw [bx];exact Nat.mul_le_mul_right _ Z, ?_⟩
      rw [bx,← b0,← b2,C3,ac0 _ _ _ _ (by rw [Array.length_toList]) Z,a6]
      exact Pu _ _
    ·cases h
   ·cases h
  ·cases h
 ·cases h
theorem Ww (w:World) (cs:Array Value) (e:TypeId) (n:Nat):(w.alloc (.cells cs e)).freeze ⟨w.heap.size,n,none⟩ 1=w.alloc (.cells cs e (n,n+1)):=by
 unfold World.freeze World.alloc
 simp only [Nat.one_ne_zero,if_false]
 congr 1
 apply Array.ext
 ·simp
 ·intro i G I
  simp only [Array.size_modify,Array.size_push] at G
  rw [Array.getElem_modify]
  by_cases hi:i=w.heap.size
  ·subst hi;simp
  ·rw [if_neg (Ne.symm hi),Array.getElem_push_lt (by omega),Array.getElem_push_lt (by omega)]
theorem run_mark {b:Nat} {w:World} {c:Array Value} {e:TypeId} {fr:Nat×Nat} (h:w.heap[b]? =some (.cells c e fr)):(markStringish ⟨b,0,none⟩).run P w= .ok () (w.freeze ⟨b,c.size,none⟩ 1):=by
 simp [markStringish,World.shape?,h,Sem.run_bind,Result.andThen]
theorem Kv:∀ (G:List Int) (s:List UInt8),(G.foldl (fun r n=>r.push (UInt8.ofNat n.toNat)) (⟨s.toArray⟩:ByteArray))= ⟨(s ++ G.map fun z=>UInt8.ofNat z.toNat).toArray⟩
 | [],s=>by simp
 | n :: G,s=>by
  rw [List.foldl_cons]
  have:(⟨s.toArray⟩:ByteArray).push (UInt8.ofNat n.toNat)= ⟨(s ++ [UInt8.ofNat n.toNat]).toArray⟩:=by
   unfold ByteArray.push;simp
  rw [this,Kv G]
  simp
theorem Zj {K:an→Nat→Option R} {t:TypeId} {v:AV} (h:rT P H t v K=some r) (I:LO v=true) {D:Nat→Prop} {α:Nat→Nat×Nat} {B:Nat→Prop} {w:World} {u:Value} (G:v.Rel P α B w D u):∃ A m cap,u= .slice A m cap:=by
 unfold rT at h
 split at h
 ·exact ⟨_,_,_,G⟩
 ·cases I
 ·obtain ⟨_,cap,J,rfl,_⟩:=G;exact ⟨_,_,_,rfl⟩
 ·obtain ⟨A,cap,rfl,_⟩:=G;exact ⟨_,_,_,rfl⟩
 ·cases h
theorem ab9 {s d:TypeId} {x:Operand} (b1:o.op= .convert s d x) (h:BX P H s d (aB T x) k=some r):ba P ro T o H (.some false (tid false (aB T x))) lo k r:=by
 have a6:∀ c,o.op≠ .defer c:=fun c h=>by rw [b1] at h;cases h
 have bD:∀ {a:Act} {w w':World} {y:Value},(convert s d (a.eval x)).run P w= .ok y w'→(execOp a.eval o).run P w= .ok (.value y) w':=by
  intro a w w' y et
  unfold execOp
  rw [b1]
  simp only [Sem.run_bind,et,Result.andThen,Sem.run_pure]
 have bx:x ∈ o.op.operands:=by rw [b1];simp [Op.operands]
 unfold BX at h
 simp only [Bool.cond_eq_ite] at h
 split at h
 ·rename_i e3 c4 O M
  split at h
  ·rename_i ev n U
   have go:k (.val (.int c4 (c4.wrap n))) H=some r→ba P ro T o H (.some false (tid false (aB T x))) lo k r:=by
    intro b7
    refine dO b7 (fF _) a6 (fun B0 w0 b0 D α a w aE ab I=> ?_)
    have e1:=I x bx
    rw [U] at e1
    have Z:a.eval x= .int ev n:=e1
    refine ⟨_,bD ?_,rfl⟩
    rw [Z]
    unfold convert
    simp only [Sem.run_bind,run_underlying O,run_underlying M,Result.andThen,Conv.intToInt,Sem.run_pure]
   split at h
   ·split at h
    ·rename_i dy;exact go (by rw [Px dy];exact h)
    ·cases h
   ·exact go h
  ·cases h
 ·rename_i O M
  split at h
  ·rename_i st U
   refine dO h (fF _) a6 (fun B0 w0 b0 D α a w aE ab I=> ?_)
   have e1:=I x bx
   rw [U] at e1 ⊢
   have Z:a.eval x= .string st:=e1
   refine ⟨_,bD ?_,rfl⟩
   rw [Z]
   unfold convert
   simp only [Sem.run_bind,run_underlying O,run_underlying M,Result.andThen,Sem.run_pure]
  ·cases h
 ·rename_i e O M
  split at h
  ·rename_i G
   rw [Bool.and_eq_true,Bool.and_eq_true,beq_iff_eq,beq_iff_eq] at G
   obtain ⟨G,eg⟩:=G
   have b3:=CO G.1
   have en:=fun {D α B w u} ek=>Zj h eg (D:=D) (α:=α) (B:=B) (w:=w) (u:=u) ek
   obtain ⟨c,n,h,eN,ep⟩:=Oa h
   split at h
   ·rename_i zs eu
    refine dO h (fF _) a6 (fun B0 w0 b0 D α a w aE ab I=> ?_)
    have e1:=I x bx
    obtain ⟨ez,b2⟩:=ep aE ab e1
    refine ⟨.string (ofBytes zs),bD ?_,rfl⟩
    obtain ⟨c7,e2⟩:=CM eu
    have ct:ez=zs.map (.int .u8):=by
     have:=b2.rel
     rw [c7,show zs.map (fun z=>AV.val (.int .u8 z))=(zs.map (Value.int .u8)).map AV.val by rw [List.map_map];rfl] at this
     exact aj.yq this
    have J:=b2.cells w rfl
    have a1:=b2.lenOf w
    have eh:∀ a7:List Int,a7.foldl (fun r n=>r.push (UInt8.ofNat n.toNat)) ByteArray.empty=ofBytes a7:=fun a7=>by
     have:=Kv a7 []
     rw [List.nil_append] at this
     exact this
    cases b4:a.eval x with
    | slice A m cap=>
     rw [b4] at a1 J
     have eb:m=n:=by simpa [Builtin.lenOf,Sem.run_pure] using a1
     subst eb
     unfold convert
     simp only [Sem.run_bind,run_underlying O,run_underlying M,Result.andThen,run_underlying b3]
     cases A with
     | none=>
      have ec:zs= []:=by
       rw [G.2] at J
       simp only [Builtin.firstCells,Sem.run_pure,Result.ok.injEq,and_true] at J
       have:=congrArg Array.toList J
       rw [ct] at this
       simpa using this.symm
      rw [ec]
      rfl
     | some b=>
      have ea:(loadCells b m).run P w= .ok (zs.map (Value.int .u8)).toArray w:=by
       rw [G.2] at J
       simp only [Builtin.firstCells,Nat.mul_one] at J
       rw [J,ct]
      rw [run_bytesToString w b m cap zs ea,eh]
    | string st=>obtain ⟨A,m,cap,b5⟩:=en e1;rw [b4] at b5;cases b5
    | _=>rw [b4] at a1;simp [Builtin.lenOf,stuck] at a1
   ·cases h
  ·cases h
 ·rename_i e O M
  split at h
  ·rename_i st U
   split at h
   ·rename_i G
    rw [Bool.and_eq_true,beq_iff_eq,beq_iff_eq] at G
    have b3:=CO G.1
    rw [U]
    refine vH h (fun m h=>by simp [tid] at h) a6 rfl (fun B0 w0 b0 D α a w aE ab I=> ?_)
    have e1:=I x bx
    rw [U] at e1
    have Z:a.eval x= .string st:=e1
    have b6:=grownCap_ge w st.size 0 e
    have c0:((st.data.map fun b=>Value.int .u8 b.toNat) ++ Array.replicate (grownCap w st.size 0 e - st.size) (Value.int .u8 0)).size=grownCap w st.size 0 e:=by
     rw [Array.size_append,Array.size_map,Array.size_replicate]
     have:st.data.size=st.size:=rfl
     omega
    refine ⟨w.drew, .cells ((st.data.map fun b=>Value.int .u8 b.toNat) ++ Array.replicate (grownCap w st.size 0 e - st.size) (Value.int .u8 0)) e (grownCap w st.size 0 e,grownCap w st.size 0 e+1),grownCap w st.size 0 e, .slice (some ⟨w.heap.size,0,none⟩) st.size (grownCap w st.size 0 e),wO w,fun ds=>by simp,bD ?_,fun D' α' B' w' b7 eo=> ?_,fun D' α' B' w' c6 c3=> ⟨c6,_,0,by rw [c3];rfl,b6,(fun h=>by cases h), .inr ⟨rfl,by rw [c3,G.2,Nat.zero_add,Nat.mul_one];exact Nat.le_refl _⟩⟩⟩
    ·rw [Z]
     unfold convert
     simp only [Sem.run_bind,run_underlying O,run_underlying M,Result.andThen,run_underlying b3]
     have ch:=run_mark (P:=P) (w:=w.drew.alloc (.cells ((st.data.map fun b=>Value.int .u8 b.toNat) ++ Array.replicate (grownCap w st.size 0 e - st.size) (Value.int .u8 0)) e)) (b:=w.heap.size) (World.alloc_heap_new w.drew _)
     rw [c0] at ch
     have dx:=Ww w.drew ((st.data.map fun b=>Value.int .u8 b.toNat) ++ Array.replicate (grownCap w st.size 0 e - st.size) (Value.int .u8 0)) e (grownCap w st.size 0 e)
     rw [← dx]
     have c5:(Conv.stringToBytes e st).run P w=((markStringish ⟨w.heap.size,0,none⟩).run P (w.drew.alloc (.cells ((st.data.map fun b=>Value.int .u8 b.toNat) ++ Array.replicate (grownCap w st.size 0 e - st.size) (Value.int .u8 0)) e))).andThen fun _ w'=> .ok (.slice (some ⟨w.heap.size,0,none⟩) st.size (grownCap w st.size 0 e)) w':=by
      simp [Conv.stringToBytes,newRow,Question.forced,grownCap,Sem.run_bind,Result.andThen]
     rw [c5,ch]
     rfl
    ·refine .inr ⟨_,_,eo,c0,fun _ i hi=>by simp;omega,by show (dv st).length≤_;rw [wV];exact b6, ?_⟩
     have ed:(st.data.map fun b=>Value.int .u8 (b.toNat:Int)).toList=(dv st).map (Value.int .u8):=by simp [dv]
     have:(((st.data.map fun b=>Value.int .u8 b.toNat) ++ Array.replicate (grownCap w st.size 0 e - st.size) (Value.int .u8 0)).toList.take (an.ints .u8 (dv st)).len)=(dv st).map (Value.int .u8):=by
      show List.take (dv st).length _=_
      rw [Array.toList_append,ed,List.take_append_of_le_length (by rw [List.length_map];exact Nat.le_refl _),List.take_of_length_le (by rw [List.length_map];exact Nat.le_refl _)]
     rw [this]
     show aj P α' B' w' ((dv st).map fun z=>AV.val (.int .u8 z)) D' _
     rw [show (dv st).map (fun z=>AV.val (.int .u8 z))=((dv st).map (Value.int .u8)).map AV.val by rw [List.map_map];rfl]
     exact aj.vals _
   ·cases h
  ·cases h
 ·cases h
end
end Go.V
namespace Go.V
open Go Go.RowKit
section
variable {R : Type} {P : Program} {ro : Option Nat} {T : List AV} {o : Oper} {H : Hp} {lo : Nat} {k : Kn R} {r : R}
theorem XV {u:TypeId} {G:Nat} (J:P.cellsOf u≠0) (M:1≤G):liesAt P P.depth u G 0 u 1=true:=by
 have I:P.depth=(2*(P.types.size+Made.depth)+1)+1:=rfl
 rw [I]
 simp only [liesAt,Bool.or_eq_true]
 left
 rw [I]
 simp [rowAt,J,M,sameLayout]
theorem aca {s d:TypeId} {x:Operand} (O:o.op= .convert s d x) (h:EJ P H s d (aB T x) k=some r):ba P ro T o H (.some false (tid false (aB T x))) lo k r:=by
 have b1:∀ c,o.op≠ .defer c:=fun c h=>by rw [O] at h;cases h
 have b3:∀ {a:Act} {w w':World} {y:Value},(convert s d (a.eval x)).run P w= .ok y w'→(execOp a.eval o).run P w= .ok (.value y) w':=by
  intro a w w' y c0
  unfold execOp
  rw [O]
  simp only [Sem.run_bind,c0,Result.andThen,Sem.run_pure]
 have b2:x ∈ o.op.operands:=by rw [O];simp [Op.operands]
 unfold EJ at h
 split at h
 ·rename_i i off b0
  unfold JK at h
  simp only [Bool.cond_eq_ite] at h
  split at h
  ·rename_i t bD a1
   split at h
   ·rename_i j c ty st a7 I
    split at h
    ·rename_i J
     simp only [Bool.and_eq_true,Bool.not_eq_true',decide_eq_true_eq,beq_eq_false_iff_ne] at J
     obtain ⟨⟨Z,ch⟩,c3⟩:=J
     have bx:=(List.getElem?_eq_some_iff.1 I).1
     refine dO h (fF _) b1 (fun B0 w0 a6 D α a w M ab aE=> ?_)
     have G:=aE x b2
     rw [b0] at G M
     obtain ⟨hi,G⟩:=G
     have U:a6 i=some (.row c ty st):=(M i false (by simp [tid]) bx).trans I
     obtain ⟨cs,fr,e1,b4,b5,b6,b7⟩:=ig ab hi U (by cases st <;> first | rfl | exact absurd rfl Z)
     refine ⟨_,b3 ?_,hi,rfl⟩
     rw [G]
     exact Lib.run_to_unsafe w ⟨(α i).1,off,none⟩ bD a1 a7 ch (e:=ty) (cells:=cs.size) (by simp [World.shape?,e1]) (by show off < cs.size;omega)
    ·cases h
   ·cases h
  ·rename_i u bD a1
   split at h
   ·rename_i j c ty st a7 I
    split at h
    ·rename_i J
     simp only [Bool.and_eq_true,Bool.not_eq_true',decide_eq_true_eq,beq_iff_eq,beq_eq_false_iff_ne] at J
     obtain ⟨⟨⟨⟨Z,rfl⟩,rfl⟩,ct⟩,c4⟩:=J
     have bx:=(List.getElem?_eq_some_iff.1 I).1
     refine dO h (fF _) b1 (fun B0 w0 a6 D α a w M ab aE=> ?_)
     have G:=aE x b2
     rw [b0] at G M
     obtain ⟨hi,G⟩:=G
     have U:a6 i=some (.row c ty st):=(M i false (by simp [tid]) bx).trans I
     obtain ⟨cs,fr,e1,b4,b5,b6,b7⟩:=ig ab hi U (by cases st <;> first | rfl | exact absurd rfl Z)
     refine ⟨_,b3 ?_,hi,rfl⟩
     rw [G]
     refine Lib.run_from_unsafe w ⟨(α i).1,0,none⟩ bD a1 a7 (e:=ty) (cells:=cs.size) (by simp [World.shape?,e1]) (XV (by omega) ?_)
     exact (Nat.one_le_div_iff ct).2 (by omega)
    ·cases h
   ·cases h
  ·cases h
 ·exact ab9 O h
theorem abu {tp G:TypeId} {j:TypeInfo} {w:World} (a:Addr) (I:P.underlying tp=some (.pointer G)) (J:P.info? G=some j):(binOp .eql tp (.pointer (some a)) (.pointer (some a))).run P w= .ok (.bool true) w:=by
 have h:∀ d:Nat,(Op.equalIn (d+1) tp (.pointer (some a)) (.pointer (some a))).run P w= .ok true w:=fun d=>by
  simp [Op.equalIn,run_underlying I,sizeOf,typeInfo,J,run_sameAddr_same]
 simp only [binOp]
 simp [Op.equal,Op.maxDepth,h 9999]
theorem ab3 {O:BinOp} {t ty:TypeId} {x y:Operand} (I:o.op= .binOp O t x y ty) (h:EF P O t (aB T x) (aB T y) H k=some r):ba P ro T o H (.some false []) lo k r:=by
 have bx:∀ c,o.op≠ .defer c:=fun c h=>by rw [I] at h;cases h
 unfold EF at h
 split at h
 ·rename_i i off j bD e1 aE
  have go:∀ {b:Bool},i=j→off=bD→k (.val (.bool b)) H=some r→(∀ (a:Addr) (w:World),(binOp O t (.pointer (some a)) (.pointer (some a))).run P w= .ok (.bool b) w)→ba P ro T o H (.some false []) lo k r:=by
   intro b hi a6 a1 a7
   subst hi a6
   refine dO a1 (fun m h=>by simp at h) bx (fun B0 w0 b2 D α a w b3 b1 ab=> ?_)
   have U:=ab x (by rw [I];simp [Op.operands])
   have Z:=ab y (by rw [I];simp [Op.operands])
   rw [e1] at U
   rw [aE] at Z
   exact ⟨.bool b,yV I U.2 Z.2 (KM (fun b4 h=>by cases h) (fun h=>by cases h)) (a7 _ _),rfl⟩
  unfold M6 at h
  simp only [Bool.cond_eq_ite] at h
  split at h
  ·rename_i b0 M
   split at h
   ·rename_i G
    simp only [Bool.and_eq_true,beq_iff_eq] at G
    obtain ⟨j,J⟩:=Option.isSome_iff_exists.1 G.2
    exact go G.1.1 G.1.2 h (fun a w=>abu a M J)
   ·cases h
  ·rename_i b0 M
   split at h
   ·rename_i G
    simp only [Bool.and_eq_true,beq_iff_eq] at G
    obtain ⟨j,J⟩:=Option.isSome_iff_exists.1 G.2
    exact go G.1.1 G.1.2 h (fun a w=>Lib.run_neq_ptr_same w a M J)
   ·cases h
  ·cases h
 ·exact ab2 I h
theorem acb {c:Call} (G:o.op= .call c) (M:c.callee= .builtin .unsafeSliceData) (h:EK P T o c.args.toList H k=some r):ba P ro T o H (.some false []) lo k r:=by
 have U:∀ c,o.op≠ .defer c:=fun c h=>by rw [G] at h;cases h
 unfold EK at h
 simp only [Bool.cond_eq_ite] at h
 split at h
 ·rename_i x I
  split at h
  ·rename_i fl t i off len a7
   split at h
   ·cases h
   ·rename_i bx
    refine dO h (fun m h=>by simp at h) U (fun B0 w0 b4 D α a w b5 b3 a1=> ?_)
    have b0:x ∈ c.args:=Array.mem_toList_iff.1 (by rw [I];exact List.mem_singleton.2 rfl)
    have J:=a1 x (by rw [G];simp only [Op.operands,Call.operands,Array.mem_append];exact .inr b0)
    rw [a7] at J
    obtain ⟨hi,cap,b6,ab,b2,_,aE⟩:=J
    have O:cap≠0:=by
     have:len≠0:=by simpa using bx
     omega
    obtain ⟨rfl,_⟩:=aE.resolve_left O
    refine ⟨_, ?_,hi,rfl⟩
    obtain ⟨b1,Z,ts⟩:=c
    simp only at M I
    subst M
    have a6:Z= #[x]:=by apply Array.toList_inj.1;rw [I]
    subst a6
    have bD:Array.map a.eval #[x]= #[a.eval x]:=by simp
    unfold execOp
    rw [G]
    simp only [resolve,Sem.run_bind,Sem.run_pure,Result.andThen,invoke,builtin,bD,ab,Lib.run_unsafeSliceData_row w ts o.type _ _ _ O]
  ·exact pR U h
  ·cases h
 ·cases h
theorem Zv {B0:Nat→Prop} {w0:World} {D:Nat→Prop} {α:Nat→Nat×Nat} {h:Hf} {w w':World} (I:Ok P B0 w0 D α h w) {i:Nat} (hi:D i) {c:an} {ty:TypeId} (aE:h i=some (.row c ty .live)) (b4:w'.heap.size=w.heap.size) (b2:∀ b,b≠(α i).1→w'.heap[b]? =w.heap[b]?)
  (c5:∀ B,B≤(α i).1→bm B w w') (c4:∀ cs fr,w.heap[(α i).1]? =some (.cells cs ty fr)→∃ bD,w'.heap[(α i).1]? =some (.cells cs ty bD)):
  Ok P B0 w0 D α (a8 h i (some (.row c ty .froz))) w'∧bA D D α α (aN D α h) (aN D α (a8 h i (some (.row c ty .froz)))) w w':=by
 have a7:aN D α h (α i).1:= ⟨i,_,hi,aE,rfl,rfl⟩
 have bx:∀ b,aN D α (a8 h i (some (.row c ty .froz))) b→aN D α h b∧b≠(α i).1:=by
  rintro b ⟨j,b5,M,G,J,U⟩
  by_cases e:j=i
  ·subst e;rw [cU] at G;cases G;cases J
  ·rw [bM _ _ e] at G
   exact ⟨⟨j,b5,M,G,J,U⟩,fun ab=>e (I.inj j i b5 _ M hi G aE J rfl (U.trans ab))⟩
 have b1:bA D D α α (aN D α h) (aN D α (a8 h i (some (.row c ty .froz)))) w w':= ⟨fun _ h=>h,fun _ _=>rfl,fun b o G J=> ⟨fun h=>J (bx b h).1,(b2 b (fun e=>J (e ▸ a7))).trans G⟩⟩
 refine ⟨⟨fun j M=> ?_,I.below.trans (c5 _ (I.fresh i hi).1),fun b a6=> ?_,fun b a6 O=>I.sep b a6 (bx b O).1,fun j M=>by rw [b4];exact I.fresh j M, ?_, ?_, ?_⟩,b1⟩
 ·by_cases e:j=i
  ·subst e;exact ⟨_,cU _ _ _⟩
  ·rw [bM _ _ e];exact I.lt j M
 ·have G:=I.cN b a6
  refine ⟨by rw [b4];exact G.1,fun ds=> ?_⟩
  rw [b2 b (fun e=>I.sep b a6 (e ▸ a7))]
  exact G.2 ds
 ·intro a b b6 b7 ha hb G J U a1 b0
  have ch:∀ j k,a8 h i (some (.row c ty .froz)) j=some k→k.isLive=true→j≠i:=by
   rintro j k b3 c7 rfl
   rw [cU] at b3
   cases b3
   cases c7
  have ct:=ch a b6 G U
  have c0:=ch b b7 J a1
  rw [bM _ _ ct] at G
  rw [bM _ _ c0] at J
  exact I.inj a b b6 b7 ha hb G J U a1 b0
 ·intro j k M G J O
  by_cases e:j=i
  ·subst e
   rcases O with O | O
   ·exact I.sep _ O a7
   ·exact (bx _ O).2 rfl
  ·rw [bM _ _ e] at G
   exact I.db j k M G J (O.elim .inl (fun h=> .inr (bx _ h).1))
 ·intro j k M G
  by_cases e:j=i
  ·subst e
   rw [cU] at G
   cases G
   rcases I.cJ j _ hi aE with c6 | ⟨cs,fr,G,J,U,a1,b0⟩
   ·cases c6
   ·obtain ⟨bD,c3⟩:=c4 cs fr G
    exact .inr ⟨cs,bD,c3,J,(fun h=>by cases h),a1,aj.mono _ _ (b1.keeps B0) b0⟩
  ·rw [bM _ _ e] at G
   refine cO.mono (b1.keeps B0) (fun o dx Z=>(b2 _ (fun ab=> ?_)).trans dx) (I.cJ j k M G)
   rcases Z with Z | Z
   ·exact e (I.inj j i k _ M hi G aE Z rfl ab)
   ·exact I.db j k M G Z (.inr (ab ▸ a7))
theorem NT {w:World} :∀ (l:List Int) (a:Addr) (G:ByteArray),(∀ z ∈ l,ah .u8 z=true)→(∀ (j:Nat) (z:Int),l[j]? =some z→w.cell? (a.add j)=some (.int .u8 z))→(loadBytes a G l.length).run P w= .ok ⟨G.data ++ (l.map fun z=>UInt8.ofNat z.toNat).toArray⟩ w
 | [],a,G,_,_=>by simp [loadBytes]
 | z :: l,a,G,M,h=>by
  have J:w.cell? a=some (.int .u8 z):=by
   have:=h 0 z rfl
   simpa [Addr.add] using this
  have Z:=NT l (a.add 1) (G.push (UInt8.ofNat z.toNat)) (fun z U=>M z (List.mem_cons_of_mem _ U)) (fun j y O=>by
   have:=h (j+1) y (by simpa using O)
   have e:(a.add 1).add j=a.add (j+1):=by
    unfold Addr.add
    by_cases I:j=0
    ·subst I;simp
    ·simp [I];omega
   rw [e];exact this)
  simp only [List.length_cons,loadBytes,Sem.run_bind,run_load,J,Result.andThen]
  show Sem.run P (loadBytes (a.add 1) (G.push (UInt8.ofNat z.toNat)) l.length) w=_
  rw [Z]
  congr 1
  apply ByteArray.ext
  simp [ByteArray.push]
theorem Wv {w:World} {b n:Nat} {cs:Array Value} {ty:TypeId} {fr:Nat×Nat} (O:w.heap[b]? =some (.cells cs ty fr)):(w.freeze ⟨b,0,none⟩ n).heap.size=w.heap.size∧(∀ G,G≠b→(w.freeze ⟨b,0,none⟩ n).heap[G]? =w.heap[G]?)∧(∀ B,B≤b→bm B w (w.freeze ⟨b,0,none⟩ n))∧∃ Z,(w.freeze ⟨b,0,none⟩ n).heap[b]? =some (.cells cs ty Z):=by
 unfold World.freeze
 by_cases J:n=0
 ·rw [if_pos J]
  exact ⟨rfl,fun _ _=>rfl,fun B _=>bm.refl _ _,fr,O⟩
 ·rw [if_neg J]
  have M:∀ G,G≠b→(w.heap.modify b fun
   | .cells c U (lo,hi)=> .cells c U (if lo==hi then (0,0+n) else (min lo 0,max hi (0+n)))
   | o=>o)[G]? =w.heap[G]? :=by
   intro G ab
   rw [Array.getElem?_modify,if_neg (fun e=>ab e.symm)]
  refine ⟨Array.size_modify,M,fun B aE=> ⟨⟨rfl,rfl,rfl,by show w.heap.size≤(w.heap.modify _ _).size;rw [Array.size_modify];exact Nat.le_refl _,fun k a1=>M k (by omega)⟩,Nat.le_refl _⟩, ?_⟩
  obtain ⟨fl,I⟩:=fr
  refine ⟨if fl==I then (0,0+n) else (min fl 0,max I (0+n)), ?_⟩
  show (w.heap.modify b _)[b]? =_
  rw [Array.getElem?_modify,if_pos rfl,O]
  rfl
theorem Wp (zs:Array Value) (n:Nat):(Builtin.zeroCells zs n).toList=(List.range (n*zs.size)).map fun j=>zs.toList.getD (j % zs.size) undef:=by
 unfold Builtin.zeroCells
 rw [Array.toList_map,Array.toList_range]
 refine List.map_congr_left fun j I=> ?_
 have J:0 < zs.size:=Nat.pos_of_ne_zero fun h=>by rw [h,Nat.mul_zero] at I;cases I
 have G:=Nat.mod_lt j J
 rw [getElem!_pos zs _ G,List.getD_eq_getElem?_getD,Array.getElem?_toList,Array.getElem?_eq_getElem G];rfl
theorem ab8 {c:Call} (a1:o.op= .call c) (b1:c.callee= .builtin .clear) (h:EI P lo T c.args.toList c.argTypes.toList H k=some r):ba P ro T o H (match c.args.toList with | [x]=> .some false (tid true (aB T x)) | _=> .all) lo k r:=by
 have fc:∀ c,o.op≠ .defer c:=fun c h=>by rw [a1] at h;cases h
 unfold EI at h
 split at h
 ·rename_i x t M b7
  rw [M]
  simp only
  unfold Js at h
  simp only [Bool.cond_eq_ite] at h
  split at h
  ·rename_i e fl fv i off n U b2
   split at h
   ·cases h
   ·rename_i ez
    rw [decide_eq_true_eq] at ez
    split at h
    ·rename_i vs ty z aE fa
     split at h
     ·rename_i b6
      simp only [Bool.and_eq_true,beq_iff_eq,decide_eq_true_eq] at b6
      obtain ⟨⟨⟨⟨⟨rfl,gf⟩,ec⟩,ab⟩,gn⟩,ed⟩:=b6
      have eN:=(List.getElem?_eq_some_iff.1 aE).1
      rw [b2]
      refine ⟨_,_,h,fun _ m b4=>List.getElem?_set_ne (by omega),fun B0 w0=>KP aE (fun m=>by simp [tid]) fc rfl rfl (fun ep D α a w et eh ek=> ?_)⟩
      have e7:x ∈ c.args:=Array.mem_toList_iff.1 (by rw [M];exact List.mem_singleton.2 rfl)
      have ch:=ek x (by rw [a1];simp only [Op.operands,Call.operands,Array.mem_append];exact .inr e7)
      rw [b2] at ch
      obtain ⟨hi,cap,hd,q1,q2,_,fh⟩:=ch
      have eo:cap≠0:=by omega
      obtain ⟨b5,_⟩:=fh.resolve_left eo
      first | rw [b5] at q1 | rw [← b5] at q1
      have Z:ep i=some (.row (.vals vs) ty .live):=(et i true (by simp [tid]) eN).trans aE
      obtain ⟨cs,fr,e1,a7,bx,c3,c5⟩:=ig eh hi Z rfl
      obtain ⟨hc,G,z1,z2,rfl,z4,z5⟩:=qg fa
      have O:oo n (G.cells.toList.map AV.val)=(List.range (n*G.cells.size)).map fun j=>G.cells.toList.getD (j % G.cells.size) undef:=by
       unfold oo
       rw [List.map_map,List.length_map,Array.length_toList,show (lW ∘ AV.val)=id from rfl,List.map_id]
      rw [List.length_map,Array.length_toList] at ab
      have c4:vs.length≤(α i).2:=c3
      have I:=Wp G.cells n
      rw [← O] at I
      rw [ab] at O
      have J:(Builtin.zeroCells G.cells n).toList.length=n*P.cellsOf e:=by rw [I,O,List.length_map,List.length_range]
      have e2:∀ v ∈ (Builtin.zeroCells G.cells n).toList,v.oneCell'=true:=by
       rw [I,O]
       intro v e6
       obtain ⟨j,b3,rfl⟩:=List.mem_map.1 e6
       have Z:0 < P.cellsOf e:=Nat.pos_of_ne_zero fun h=>by rw [h,Nat.mul_zero] at b3;cases b3
       have eb:=Nat.mod_lt j Z
       rw [List.getD_eq_getElem?_getD,List.getElem?_eq_getElem (show j % P.cellsOf e < G.cells.toList.length by rw [Array.length_toList,ab];exact eb)]
       exact List.all_eq_true.1 ec (.val _) (List.mem_map.2 ⟨_,List.getElem_mem _,rfl⟩)
      obtain ⟨w',a6,c6,c7,b0,dx,dy,ea⟩:=yW (P:=P) (α i).1 off ty fr (Builtin.zeroCells G.cells n).toList 0 w cs e1 (by omega) (by rw [a7];exact bx rfl) e2
      have e3:(execOp a.eval o).run P w= .ok (.value (.tuple #[])) w':=by
       obtain ⟨fs,c0,ts⟩:=c
       simp only at b1 M b7
       subst b1
       have en:c0= #[x]:=by apply Array.toList_inj.1;rw [M]
       have e4:ts= #[t]:=by apply Array.toList_inj.1;rw [b7]
       subst en e4
       have b4:Array.map a.eval #[x]= #[a.eval x]:=by simp
       have e5:P.underlying t=some (.slice e):=by
        unfold ky at U
        split at U
        ·rename_i eg;cases U;exact eg
        ·cases U
       obtain ⟨ct,rfl⟩:∃ ct,n=ct+1:= ⟨n - 1,by omega⟩
       unfold execOp
       rw [a1]
       simp [resolve,Result.andThen,invoke,builtin,b4,q1,Builtin.clear_,run_underlying e5,zeroValue,typeInfo,z1,z2,c6]
      refine ⟨w', .tuple #[],hi,ea,dx,dy, .inr e3,fun B' eu=> .inr ⟨a6,fr,c7, ?_,bx, ?_, ?_⟩,fun _ _ _ _=> ⟨#[],rfl,rfl⟩⟩
      ·have:=congrArg List.length b0
       simp only [Array.length_toList,List.length_append,List.length_take,List.length_drop] at this
       rw [Array.length_toList] at J
       omega
      ·show (vs.take off ++ _ ++ vs.drop _).length≤_
       rw [← I,List.length_append,List.length_append,List.length_take,List.length_drop,J]
       omega
      ·have bD:=aj.mono _ _ eu c5
       have ev:(List.take off vs ++ (Builtin.zeroCells G.cells n).toList ++ List.drop (off+n*P.cellsOf e) vs).length=vs.length:=by
        rw [List.length_append,List.length_append,List.length_take,List.length_drop,J]
        omega
       show aj P α B' w' (List.map AV.val (vs.take off ++ _ ++ vs.drop _)) D (a6.toList.take (vs.take off ++ _ ++ vs.drop _).length)
       rw [← I,ev,b0,Nat.add_zero,J,O4 cs.toList _ J ed (show vs.length≤cs.toList.length from Nat.le_trans c4 (Nat.le_of_eq (a7.symm.trans Array.length_toList.symm))),List.map_append,List.map_append,List.map_take,List.map_drop]
       exact aj.append (aj.append (aj.take bD _) (aj.vals _)) (aj.drop bD _)
     ·cases h
    ·cases h
  ·cases h
 ·cases h
theorem acx {c:Call} (O:o.op= .call c) (b1:c.callee= .builtin .unsafeString) (h:ET P lo T o c.args.toList c.argTypes.toList H k=some r):ba P ro T o H (match c.args.toList with | p :: _=> .some false (tid true (aB T p)) | _=> .all) lo k r:=by
 have ct:∀ c,o.op≠ .defer c:=fun c h=>by rw [O] at h;cases h
 unfold ET at h
 split at h
 ·rename_i p n tp ti M b7
  rw [M]
  simp only
  split at h
  ·rename_i i off U
   split at h
   ·rename_i kn z ep
    unfold OR at h
    simp only [Bool.cond_eq_ite] at h
    split at h
    ·rename_i e zs ty e2 bx
     split at h
     ·rename_i b6
      simp only [Bool.and_eq_true,beq_iff_eq,decide_eq_true_eq] at b6
      obtain ⟨⟨⟨⟨⟨⟨⟨rfl,a6⟩,rfl⟩,fv⟩,J⟩,ab⟩,ea⟩,gf⟩:=b6
      have b5:=(List.getElem?_eq_some_iff.1 bx).1
      rw [U]
      refine ⟨_,_,h,fun gn m G=>List.getElem?_set_ne (by omega),fun B0 w0=> ⟨by simp,fun m G eo=> ?_,fun h ek ro D α a w K Q bD hc b0 eb=> ?_⟩⟩
      ·rw [List.getElem?_set_ne]
       rintro rfl
       exact eo (by simp [tid])
      ·have eu:p ∈ c.args:=Array.mem_toList_iff.1 (by rw [M];simp)
       have et:n ∈ c.args:=Array.mem_toList_iff.1 (by rw [M];simp)
       have Z:=b0 p (by rw [O];simp only [Op.operands,Call.operands,Array.mem_append];exact .inr eu)
       have c0:=b0 n (by rw [O];simp only [Op.operands,Call.operands,Array.mem_append];exact .inr et)
       rw [U] at Z
       rw [ep] at c0
       obtain ⟨a7,Z⟩:=Z
       have e5:a.eval n= .int kn z:=c0
       have b3:h i=some (.row (.ints .u8 zs) e .live):=(ek i ⟨true,by simp [tid]⟩ b5).trans bx
       obtain ⟨cs,fr,e1,fa,fc,c4,c5⟩:=ig bD a7 b3 rfl
       have fh:zs.length≤(α i).2:=c4
       have a1:cA h H (H.set i (.row (.ints .u8 zs) e .froz)) (tid true (.ptr i 0))=a8 h i (some (.row (.ints .u8 zs) e .froz)):=by
        funext m
        unfold cA a8
        by_cases G:m=i
        ·subst G
         rw [if_pos (.inl (by simp [tid])),if_pos rfl,List.getElem?_set_self b5]
        ·rw [if_neg,if_neg G]
         rintro (J | ⟨J,ab⟩)
         ·simp [tid] at J;exact G J
         ·simp at ab;omega
       obtain ⟨c6,c7,dx,dy⟩:=Wv (n:=z.toNat) e1
       obtain ⟨ec,eh⟩:=Zv bD a7 b3 c6 c7 dx (fun e7 fs b2=>by rw [e1] at b2;cases b2;exact dy)
       refine si (w':=w.freeze ⟨(α i).1,0,none⟩ z.toNat) (x:= .string (ofBytes (zs.take z.toNat))) ct ?_ (eb D α _ _ (by rw [a1];exact ec) (fun i hi=> .inl hi) (by rw [a1];exact eh) rfl)
       obtain ⟨e6,c3,ts⟩:=c
       simp only at b1 M b7
       subst b1
       have ed:c3= #[p,n]:=by apply Array.toList_inj.1;rw [M]
       have eN:ts= #[tp,ti]:=by apply Array.toList_inj.1;rw [b7]
       subst ed eN
       have G:Array.map a.eval #[p,n]= #[a.eval p,a.eval n]:=by simp
       have eg:z.toNat≤cs.size:=by omega
       have en:=Lib.liesAt_bytes (P:=P) a6 cs.size z.toNat eg
       have b4:=NT (P:=P) (w:=w) (zs.take z.toNat) ⟨(α i).1,0,none⟩ .empty (fun aE I=>List.all_eq_true.1 ea aE (List.mem_of_mem_take I)) (fun j aE I=>by
        rw [List.getElem?_take] at I
        split at I
        ·rw [fH,me e1]
         obtain ⟨y,g1,g2⟩:=rP c5 (v:= .val (.int .u8 aE)) (o:=j) (by show (zs.map _)[_]? =_;rw [List.getElem?_map,I];rfl)
         rw [Nat.zero_add,g1]
         exact congrArg some g2
        ·cases I)
       rw [List.length_take,Nat.min_eq_left ab] at b4
       have e3:¬ z < 0:=by omega
       have hd:¬ z > IntKind.i64.max:=by have:IntKind.i64.max=9223372036854775807:=rfl;omega
       have e4:z≠0:=by omega
       unfold execOp
       rw [O]
       have ez:w.shape? (α i).1=some (e,cs.size):=by simp [World.shape?,e1]
       have ch:=ad6 (P:=P) (w:=w) (tp:=tp) (ti:=ti) (ty:=o.type) (kn:=kn) e2 e3 J e4 ez a6 en b4
       have ev:(⟨ByteArray.empty.data ++ (List.map (fun z=>UInt8.ofNat z.toNat) (List.take z.toNat zs)).toArray⟩:ByteArray)=ofBytes (zs.take z.toNat):=by
        apply ByteArray.ext
        simp [ofBytes]
       rw [ev] at ch
       simp only [resolve,Sem.run_bind,Sem.run_pure,Result.andThen,invoke,builtin,G,Z,e5,ch]
     ·cases h
    ·cases h
   ·cases h
  ·rename_i v U
   have:=pR (ro:=ro) (lo:=lo) ct h
   rw [U]
   exact this
  ·cases h
 ·cases h
theorem Wj {g:FuncId} (h:Co P g=true) (x:Value) (w:World):(callFunc g #[x]).run P w= .ok (.value x) w:=by
 unfold Co at h
 split at h
 ·rename_i M aE
  simp only [Bool.and_eq_true,beq_iff_eq,Bool.or_eq_true] at h
  obtain ⟨⟨hb,J⟩,G⟩:=h
  have Z:Extern.findNext M=none:=by
   unfold Extern.findNext
   have e1 : Extern.allNextRows.lookup "internal/abi.NoEscape" = none := by kernel_rfl
   have I : Extern.allNextRows.lookup "" = none := by kernel_rfl
   simp only [J]
   rcases G with G | G <;> simp only [G,e1,I] <;> rfl
  have ab:Extern.find M=some Extern.AbiNoEscape.same:=by
   unfold Extern.find
   have I : Extern.allGenericRows.lookup "internal/abi.NoEscape" = none := by kernel_rfl
   have O : Extern.allTypedRows.lookup "internal/abi.NoEscape" = none := by kernel_rfl
   have U : Extern.allRows.lookup "internal/abi.NoEscape" = some Extern.AbiNoEscape.same := by kernel_rfl
   simp only [J,I,O,U]
   rfl
  rw [run_callFunc_extern aE (by rw [J];decide) hb Z ab]
  rfl
 ·cases h
theorem acd {c:Call} {f:Operand} {v:AV} (M:o.op= .call c) (ab:c.callee= .value f) (G:Cm P (aB T f) (c.args.toList.map (aB T))=some v) (h:k v H=some r) (rd:Bool) {l:List (Nat×Bool)} (bD:∀ m,(m,true) ∉ l):ba P ro T o H (.some rd l) lo k r:=by
 have b1:∀ c,o.op≠ .defer c:=fun c h=>by rw [M] at h;cases h
 unfold Cm at G
 simp only [Bool.cond_eq_ite] at G
 split at G
 ·rename_i g a b b7 a7 J
  split at G
  ·rename_i aE
   cases G
   simp only [Bool.and_eq_true,beq_iff_eq,Array.size_eq_zero_iff] at aE
   obtain ⟨⟨ha,hb⟩,bx⟩:=aE
   subst ha hb
   refine dO h bD b1 (fun B0 w0 b5 D α I w b6 b4 Z=> ?_)
   obtain ⟨b3,U,ts⟩:=c
   simp only at ab J
   subst ab
   obtain ⟨p,O⟩:∃ p,U= #[p]:=by
    have:U.toList.length=1:=by have:=congrArg List.length J;simpa using this
    obtain ⟨p,O⟩:=List.length_eq_one_iff.1 this
    exact ⟨p,Array.toList_inj.1 O⟩
   subst O
   simp only [List.map_cons,List.map_nil,List.cons.injEq,and_true] at J
   have a1:=Z f (by rw [M];simp [Op.operands,Call.operands])
   have a6:=Z p (by rw [M];simp [Op.operands,Call.operands])
   rw [a7] at a1
   rw [J] at a6
   have b2:I.eval f= .func (.func g) #[] #[]:=a1
   refine ⟨I.eval p, ?_,a6⟩
   have b0:Array.map I.eval #[p]= #[I.eval p]:=by simp
   unfold execOp
   rw [M]
   simp only [resolve,b2,Deferred.ofValue,b0,Sem.run_bind,Sem.run_pure,Result.andThen,invoke,Array.empty_append,Array.append_empty,Wj bx]
  ·cases G
 ·cases G
end
end Go.V
namespace Go.V
open Go Go.RowKit
def cp:Nat→Nat×Nat:=fun _=>(0,0)
def bf (P:Program) (C:FuncId→List AV→Option (Bool×AV)):Prop:=
 ∀ g args r,C g args=some (true,r)→∀ (B:Nat→Prop) (w:World) (G:Array Value),(∀ b,B b→b < w.heap.size∧∀ ds,w.heap[b]?≠some (.deferred ds))→aj P cp B w args bc G.toList→
  Calls P g G w fun e w'=>∃ y,e= .returned y∧bm w.heap.size w w'∧r.Rel P cp B w' bc y
def sj (P:Program) (B0:Nat→Prop) (w0:World) (D:Nat→Prop) (α:Nat→Nat×Nat) (h:Hf) (w:World) (n G:Nat) (v:AV) (h':Hf):Ending→World→Prop:=fun e w'=>
 ∃ y D' α',e= .returned y∧Ok P B0 w0 D' α' h' w'∧(∀ i,D' i→D i∨(n≤i∧i < G))∧bA D D' α α' (aN D α h) (aN D' α' h') w w'∧v.Rel P α' (Own B0 D' α' h') w' D' y
def df (P:Program) (g:FuncId) (args:List AV) (H:Hp) (v:AV) (G:Hp):Prop:=
 ∀ (B0:Nat→Prop) (w0:World) (D:Nat→Prop) (α:Nat→Nat×Nat) (w:World) (I:Array Value),Ok P B0 w0 D α (H[·]?) w→aj P α (Own B0 D α (H[·]?)) w args D I.toList→
  CallsIn Fence.wide 0 P g I w (sj P B0 w0 D α (H[·]?) w H.length G.length v (G[·]?))
def ss (P:Program) (g:FuncId) (args:List AV) (v:AV):Prop:=
 ∀ (B0:Nat→Prop) (w0:World) (D:Nat→Prop) (α:Nat→Nat×Nat) (h:Hf) (w:World) (G:Array Value),Ok P B0 w0 D α h w→aj P α (Own B0 D α h) w args D G.toList→
  CallsIn Fence.wide 0 P g G w (sj P B0 w0 D α h w 0 0 v h)
def G0 (P:Program) {R:Type} (cf:Nat→FuncId→List AV→Hp→Kn R→Option R):Prop:=
 ∀ lo g args H k r,fQ P g=true→cf lo g args H k=some r→∃ v G,k v G=some r∧H.length≤G.length∧(lo≤H.length→∀ m,m < lo→G[m]? =H[m]?)∧df P g args H v G
def IS (P:Program) (i:Nat) (args:List AV) (H:Hp) (v:AV) (G:Hp):Prop:=
 ∀ (B0:Nat→Prop) (w0:World) (D:Nat→Prop) (α:Nat→Nat×Nat) (w:World) (I:Array Value),Ok P B0 w0 D α (H[·]?) w→D i→aj P α (Own B0 D α (H[·]?)) w args D I.toList→
  YieldAt Fence.wide 0 P (α i).1 I w (sj P B0 w0 D α (H[·]?) w H.length G.length v (G[·]?))
def IQ (P:Program) {R:Type} (yf:Nat→Nat→List AV→Hp→Kn R→Option R):Prop:=
 ∀ lo i args H k r,yf lo i args H k=some r→∃ v G,k v G=some r∧H.length≤G.length∧(lo≤H.length→∀ m,m < lo→G[m]? =H[m]?)∧IS P i args H v G
section
variable {R : Type} {P : Program}
theorem ri {v:AV} {α α':Nat→Nat×Nat} {B:Nat→Prop} {w:World} {x:Value} (h:v.Rel P α B w bc x):v.Rel P α' B w bc x:=AV.Rel.mono v x ⟨fun _ h=>h,fun _ h=>h.elim,fun b cs ty fr G I=> ⟨I,G⟩⟩ h
theorem LL {v:AV} {α α':Nat→Nat×Nat} {B:Nat→Prop} {w:World} {D:Nat→Prop} {x:Value} (h:v.Rel P α B w bc x):v.Rel P α' B w D x:=yR (ri h)
theorem SK {v:AV} (G:owns v=false) {D:Nat→Prop} {α α':Nat→Nat×Nat} {B:Nat→Prop} {w:World} {x:Value} (h:v.Rel P α B w D x):v.Rel P α' B w bc x:=by
 cases v with
 | val v=>exact h
 | lst fl t n f=>exact ri (α:=α) (v:= .lst fl t n f) h
 | eptr t n f j off=>exact ri (α:=α) (v:= .eptr t n f j off) h
 | agg cs=>
  obtain ⟨M,rfl,I⟩:=h
  refine ⟨M,rfl, ?_⟩
  simp only [owns,Bool.not_eq_false'] at G
  generalize M.toList=l at I
  induction cs generalizing l with
  | nil=>exact I
  | cons c cs U=>
   obtain ⟨y,zs,rfl,J,O⟩:=I
   rw [List.all_cons,Bool.and_eq_true] at G
   refine ⟨y,zs,rfl, ?_,U G.2 _ O⟩
   cases c with
   | val v=>exact J
   | lst fl t n f=>exact ri (α:=α) (v:= .lst fl t n f) J
   | _=>simp at G
 | _=>simp [owns] at G
theorem Ju:∀ {vs:List AV},vs.any owns=false→∀ {D:Nat→Prop} {α α':Nat→Nat×Nat} {B:Nat→Prop} {w:World} {G:List Value},aj P α B w vs D G→aj P α' B w vs bc G
 | [],_,D,α,α',B,w,G,h=>h
 | v :: vs,I,D,α,α',B,w,G,h=>by
  obtain ⟨y,zs,rfl,J,M⟩:=h
  rw [List.any_cons,Bool.or_eq_false_iff] at I
  exact ⟨y,zs,rfl,SK I.1 J,Ju I.2 M⟩
theorem Mf {B0:Nat→Prop} {w0:World} {D:Nat→Prop} {α:Nat→Nat×Nat} {h:Hf} {w:World} (G:Ok P B0 w0 D α h w):∀ b,Own B0 D α h b→b < w.heap.size∧∀ ds,w.heap[b]?≠some (.deferred ds):=by
 rintro b (hb | hb)
 ·exact G.cN b hb
 ·refine ⟨?_,fun ds I=>Dd G I hb⟩
  obtain ⟨i,k,hi,_,_,rfl⟩:=hb
  exact (G.fresh i hi).2
theorem Sv {C:FuncId→List AV→Option (Bool×AV)} (I:bf P C) {g:FuncId} {args:List AV} {v:AV} (h:C g args=some (true,v)) (Z:args.any owns=false):ss P g args v:=by
 intro B0 w0 D α O w aE G M
 refine callsIn_wide.2 (Calls.mono (I g args v h (Own B0 D α O) w aE (Mf G) (Ju Z M)) ?_)
 rintro e w' ⟨y,rfl,hb,ab⟩
 obtain ⟨J,U⟩:=nS G hb
 exact ⟨y,D,α,rfl,J,fun i hi=> .inl hi,U,LL ab⟩
theorem ss.tv {g:FuncId} {args:List AV} {v:AV} (h:ss P g args v) (H:Hp):df P g args H v H:=by
 intro B0 w0 D α w ab U Z
 refine (h B0 w0 D α _ w ab U Z).mono ?_
 rintro e w' ⟨y,D',α',G,I,J,M,O⟩
 exact ⟨y,D',α',G,I,fun i hi=>(J i hi).elim .inl (fun h=>by omega),M,O⟩
theorem Ch {f:AV→(AV→Option R)→Option R} {Q:AV→AV→Prop} (O:∀ v k r,f v k=some r→∃ G,k G=some r∧Q v G):∀ (l:List AV) (k:List AV→Option R) (r:R),ml f l k=some r→∃ I:List AV,k I=some r∧I.length=l.length∧∀ (i:Nat) (v G:AV),l[i]? =some v→I[i]? =some G→Q v G
 | [],k,r,h=> ⟨[],h,rfl,fun i v G h=>by simp at h⟩
 | v :: l,k,r,h=>by
  obtain ⟨G,U,Z⟩:=O v _ r h
  obtain ⟨I,ab,aE,a1⟩:=Ch O l _ r U
  refine ⟨G :: I,ab,by simp [aE],fun i u a6 J M=> ?_⟩
  cases i with
  | zero=>simp only [List.getElem?_cons_zero,Option.some.injEq] at J M;subst J M;exact Z
  | succ i=>rw [List.getElem?_cons_succ] at J M;exact a1 i u a6 J M
def qo (H:Hp) (ids:List Nat) (G:Hf):Prop:=∀ i c ty st,H[i]? =some (.row c ty st)→(st= .live∧i ∈ ids∨st= .froz)→G i=some (.row c ty .froz)
theorem UH {D:Nat→Prop} {α:Nat→Nat×Nat} {B:Nat→Prop} {w:World} {c:an} {J:List AV} {off sz len:Nat} {cs:Array Value} (O:aj P α B w c.aW D (cs.toList.take c.len)) (b0:off+len*sz≤c.len) (a6:∀ l,c= .cells l→J.length=l.length∧∀ (i:Nat) (v ab:AV),l[i]? =some v→J[i]? =some ab→∀ x,v.Rel P α B w D x→ab.Rel P α B w bc x):
  ∀ j q,j < len→q < sz→∃ y,cs[off+j*sz+q]? =some y∧(dL c J off sz j q).Rel P α B w bc y:=by
 intro j q a1 b1
 have M:off+j*sz+q < c.len:=by
  have:(j+1)*sz≤len*sz:=Nat.mul_le_mul_right _ a1
  rw [Nat.succ_mul] at this
  omega
 cases c with
 | cells l=>
  obtain ⟨bD,aE⟩:=a6 l rfl
  have hi:off+j*sz+q < l.length:=M
  have U:off+j*sz+q < J.length:=by omega
  obtain ⟨y,I,G⟩:=rP O (v:=l[off+j*sz+q]) (List.getElem?_eq_getElem hi)
  refine ⟨y,I, ?_⟩
  show (J.getD (off+j*sz+q) .any).Rel P α B w bc y
  rw [List.getD_eq_getElem?_getD,List.getElem?_eq_getElem U]
  exact aE _ _ _ (List.getElem?_eq_getElem hi) (List.getElem?_eq_getElem U) y G
 | ints bx zs=>
  have hi:off+j*sz+q < zs.length:=M
  obtain ⟨y,I,G⟩:=rP O (v:= .val (.int bx zs[off+j*sz+q])) (by show (zs.map _)[_]? =_;rw [List.getElem?_map,List.getElem?_eq_getElem hi];rfl)
  refine ⟨y,I, ?_⟩
  unfold dL
  simp only
  cases Z:(sz==1) with
  | true=>
   rw [beq_iff_eq] at Z
   subst Z
   have a7:q=0:=by omega
   subst a7
   simp only [cond]
   have:(zs.drop off).getD j 0=zs[off+j*1+0]:=by
    rw [List.getD_eq_getElem?_getD,List.getElem?_drop,show off+j=off+j*1+0 by omega,List.getElem?_eq_getElem hi];rfl
   rw [this]
   exact G
  | false=>
   simp only [cond]
   rw [List.getD_eq_getElem?_getD,List.getElem?_eq_getElem hi]
   exact G
 | vals vs=>
  have hi:off+j*sz+q < vs.length:=M
  obtain ⟨y,I,G⟩:=rP O (v:= .val vs[off+j*sz+q]) (by show (vs.map _)[_]? =_;rw [List.getElem?_map,List.getElem?_eq_getElem hi];rfl)
  refine ⟨y,I, ?_⟩
  show (AV.val (vs.getD (off+j*sz+q) undef)).Rel P α B w bc y
  rw [List.getD_eq_getElem?_getD,List.getElem?_eq_getElem hi]
  exact G
theorem vq {D:Nat→Prop} {α:Nat→Nat×Nat} {B:Nat→Prop} {w:World} {l G:List AV} (J:G.length=l.length) (h:∀ (i:Nat) (v I:AV),l[i]? =some v→G[i]? =some I→∀ x,v.Rel P α B w D x→I.Rel P α B w bc x) {U:List Value} (M:aj P α B w l D U):aj P α B w G bc U:=by
 refine aj.nO (by rw [aj.len M,J]) (fun i I O=> ?_)
 have hi:i < l.length:=by rw [← J];exact (List.getElem?_eq_some_iff.1 O).1
 obtain ⟨y,Z,ab⟩:=aj.get M (List.getElem?_eq_getElem hi)
 exact ⟨y,Z,h _ _ _ (List.getElem?_eq_getElem hi) O y ab⟩
theorem Cv {H : Hp} : ∀ (d : Nat) (v : AV) (k : AV → Option R) (r : R), kH P H d v k = some r → ∃ U, k U = some r ∧
    ∀ {B0 : Nat → Prop} {w0 : World} {D : Nat → Prop} {α : Nat → Nat × Nat} {G : Hf} {w : World}, Ok P B0 w0 D α G w → qo H (cD H d [v]) G → ∀ x, v.Rel P α (Own B0 D α G) w D x → U.Rel P α (Own B0 D α G) w bc x
  | 0, v, k, r, h => by simp [kH] at h
  | d + 1, v, k, r, h => by
    have sub : ∀ (l : List AV) (K : List AV → Option R) (r : R), ml (kH P H d) l K = some r → ∃ Z : List AV, K Z = some r ∧ Z.length = l.length ∧
        ∀ {B0 : Nat → Prop} {w0 : World} {D : Nat → Prop} {α : Nat → Nat × Nat} {G : Hf} {w : World}, Ok P B0 w0 D α G w → qo H (cD H d l) G → ∀ (i : Nat) (v U : AV), l[i]? = some v → Z[i]? = some U → ∀ x, v.Rel P α (Own B0 D α G) w D x → U.Rel P α (Own B0 D α G) w bc x := by
      intro l K r bD
      obtain ⟨Z, G, aE, a1⟩ := Ch (Q := fun v U => ∀ {B0 : Nat → Prop} {w0 : World} {D : Nat → Prop} {α : Nat → Nat × Nat} {G : Hf} {w : World}, Ok P B0 w0 D α G w → qo H (cD H d [v]) G → ∀ x, v.Rel P α (Own B0 D α G) w D x → U.Rel P α (Own B0 D α G) w bc x) (fun v k r h => Cv d v k r h) l K r bD
      refine ⟨Z, G, aE, fun {B0 w0 D α G w} J M i v U b7 ec x O => a1 i v U b7 ec J (fun j c ty st I ab => M j c ty st I (ab.elim (fun e => .inl ⟨e.1, ?_⟩) .inr)) x O⟩
      have dx := List.mem_of_getElem? b7
      cases d with
      | zero => exact absurd e.2 (by simp [cD])
      | succ d =>
        simp only [cD, List.flatMap_cons, List.flatMap_nil, List.append_nil] at e ⊢
        exact List.mem_flatMap.2 ⟨v, dx, e.2⟩
    unfold kH at h
    simp only [Bool.cond_eq_ite] at h
    split at h
    · exact ⟨_, h, fun _ _ x O => O⟩
    · rename_i fl t i off len
      split at h
      · rename_i c ty st b4
        split at h
        · cases h
        · rename_i ab
          split at h
          · rename_i b0
            have b0 := of_decide_eq_true b0
            have b3 : ∀ (Z : List AV), k (.lst fl t len (dL c Z off (P.cellsOf t))) = some r → (∀ {B0 : Nat → Prop} {w0 : World} {D : Nat → Prop} {α : Nat → Nat × Nat} {G : Hf} {w : World}, Ok P B0 w0 D α G w → qo H (cD H d c.zi) G → ∀ l, c = .cells l → Z.length = l.length ∧ ∀ (i : Nat) (v U : AV), l[i]? = some v → Z[i]? = some U → ∀ x, v.Rel P α (Own B0 D α G) w D x → U.Rel P α (Own B0 D α G) w bc x) → ∃ U, k U = some r ∧
                ∀ {B0 : Nat → Prop} {w0 : World} {D : Nat → Prop} {α : Nat → Nat × Nat} {G : Hf} {w : World}, Ok P B0 w0 D α G w → qo H (cD H (d + 1) [.sl fl t i off len]) G → ∀ x, (AV.sl fl t i off len).Rel P α (Own B0 D α G) w D x → U.Rel P α (Own B0 D α G) w bc x := by
              intro Z c6 bD
              refine ⟨_, c6, fun {B0 w0 D α G w} J M x O => ?_⟩
              have b6 : ∀ j, (j = i ∧ st = .live ∨ j ∈ cD H d c.zi) → j ∈ cD H (d + 1) [.sl fl t i off len] := by
                intro j I
                simp only [cD, List.flatMap_cons, List.flatMap_nil, List.append_nil, b4]
                cases st with
                | live => rcases I with ⟨rfl, _⟩ | I
                          · exact List.mem_cons_self
                          · exact List.mem_cons_of_mem _ I
                | froz => rcases I with ⟨_, I⟩ | I
                          · cases I
                          · exact I
                | dead => simp at ab
              have b5 : G i = some (.row c ty .froz) := M i c ty st b4 (by
                cases st with
                | live => exact .inl ⟨rfl, b6 i (.inl ⟨rfl, rfl⟩)⟩
                | froz => exact .inr rfl
                | dead => simp at ab)
              obtain ⟨hi, cap, eg, rfl, c4, c5, b1⟩ := O
              obtain ⟨cs, fr, e1, et, eu, ev, ch⟩ := ig J hi b5 rfl
              refine ⟨_, cap, rfl, c4, c5, ?_⟩
              by_cases ed : len = 0
              · exact .inl ed
              · right
                rcases b1 with b1 | ⟨rfl, b1⟩
                · omega
                · refine ⟨_, eg, cs, ty, fr, rfl, J.db i _ hi b5 rfl, e1, ?_⟩
                  exact UH ch b0 (fun l c7 => bD J (fun j c' ek eh I eb => M j c' ek eh I (eb.elim (fun e => .inl ⟨e.1, b6 j (.inr e.2)⟩) .inr)) l c7)
            cases c with
            | cells l =>
              obtain ⟨Z, G, aE, a1⟩ := sub l _ r h
              exact b3 Z G (fun {B0 w0 D α bx w} J M l2 a6 => by cases a6; exact ⟨aE, a1 J M⟩)
            | ints eN zs => exact b3 [] h (fun {B0 w0 D α G w} J M l2 a6 => by cases a6)
            | vals vs => exact b3 [] h (fun {B0 w0 D α G w} J M l2 a6 => by cases a6)
          · cases h
      · cases h
    · exact ⟨_, h, fun _ _ x O => ri O⟩
    · exact ⟨_, h, fun _ _ x O => ri O⟩
    · rename_i cs
      obtain ⟨Z, G, aE, a1⟩ := sub cs _ r h
      refine ⟨_, G, fun {B0 w0 D α bx w} J M x O => ?_⟩
      obtain ⟨a7, rfl, b2⟩ := O
      exact ⟨a7, rfl, vq aE (a1 J (fun j c ty st I ab => M j c ty st I (ab.elim (fun e => .inl ⟨e.1, by simpa [cD] using e.2⟩) .inr))) b2⟩
    · rename_i cs
      obtain ⟨Z, G, aE, a1⟩ := sub cs _ r h
      refine ⟨_, G, fun {B0 w0 D α bx w} J M x O => ?_⟩
      obtain ⟨a7, rfl, b2⟩ := O
      exact ⟨a7, rfl, vq aE (a1 J (fun j c ty st I ab => M j c ty st I (ab.elim (fun e => .inl ⟨e.1, by simpa [cD] using e.2⟩) .inr))) b2⟩
    · rename_i ez a b
      obtain ⟨eo, G, aE, a1⟩ := sub a _ r h
      obtain ⟨ep, ct, c0, c3⟩ := sub b _ r G
      refine ⟨_, ct, fun {B0 w0 D α bx w} J M x O => ?_⟩
      obtain ⟨en, a7, rfl, dy, ea⟩ := O
      exact ⟨en, a7, rfl, vq aE (a1 J (fun j c ty st I ab => M j c ty st I (ab.elim (fun e => .inl ⟨e.1, by simp [cD]; exact .inl e.2⟩) .inr))) dy,
        vq c0 (c3 J (fun j c ty st I ab => M j c ty st I (ab.elim (fun e => .inl ⟨e.1, by simp [cD]; exact .inr e.2⟩) .inr))) ea⟩
    · cases h
end
end Go.V
namespace Go.V
open Go Go.RowKit
section
variable {R : Type} {P : Program}
theorem Wy (H:Hp) (i:Nat):(gN H i).length=H.length:=by
 unfold gN
 split
 ·simp
 ·rfl
theorem KB:∀ (ids:List Nat) (H:Hp),(gO ids H).length=H.length
 | [],H=>rfl
 | i :: ids,H=>by unfold gO;rw [List.foldl_cons];exact (KB ids _).trans (Wy H i)
theorem Cy (H:Hp) (i j:Nat):(gN H i)[j]? =(if j=i then (match H[i]? with | some (.row c ty .live)=>some (.row c ty .froz) | x=>x) else H[j]?):=by
 unfold gN
 split
 ·rename_i c ty hi
  by_cases G:j=i
  ·subst G;rw [if_pos rfl,List.getElem?_set_self (List.getElem?_eq_some_iff.1 hi).1,hi]
  ·rw [if_neg G,List.getElem?_set_ne (Ne.symm G)]
 ·rename_i J
  by_cases G:j=i
  ·subst G
   rw [if_pos rfl]
   split
   ·rename_i c ty I;exact absurd I (J c ty)
   ·rfl
  ·rw [if_neg G]
theorem yr:∀ (ids:List Nat) {H:Hp} {B0:Nat→Prop} {w0:World} {D:Nat→Prop} {α:Nat→Nat×Nat} {w:World},Ok P B0 w0 D α (H[·]?) w→Ok P B0 w0 D α ((gO ids H)[·]?) w∧bA D D α α (aN D α (H[·]?)) (aN D α ((gO ids H)[·]?)) w w
 | [],H,B0,w0,D,α,w,M=> ⟨M,bA.refl _ _ _ _⟩
 | i :: ids,H,B0,w0,D,α,w,M=>by
  have a6:Ok P B0 w0 D α ((gN H i)[·]?) w∧bA D D α α (aN D α (H[·]?)) (aN D α ((gN H i)[·]?)) w w:=by
   cases hi:H[i]? with
   | none=>
    have:gN H i=H:=by unfold gN;rw [hi]
    rw [this];exact ⟨M,bA.refl _ _ _ _⟩
   | some b=>
    by_cases hb:∃ c ty,b= .row c ty .live
    ·obtain ⟨c,ty,rfl⟩:=hb
     have e:((gN H i)[·]?)=a8 (H[·]?) i (some (.row c ty .froz)):=by
      funext j
      rw [Cy,hi]
      rfl
     rw [e]
     by_cases U:D i
     ·exact L4 M U hi (.inr ⟨rfl,rfl⟩)
     ·have aE:∀ b,aN D α (a8 (H[·]?) i (some (.row c ty .froz))) b↔aN D α (H[·]?) b:=by
       intro b
       constructor
       ·rintro ⟨j,k,G,I,J,Z⟩
        rw [bM _ _ (fun e:j=i=>U (e ▸ G))] at I
        exact ⟨j,k,G,I,J,Z⟩
       ·rintro ⟨j,k,G,I,J,Z⟩
        exact ⟨j,k,G,by rw [bM _ _ (fun e:j=i=>U (e ▸ G))];exact I,J,Z⟩
      have O:∀ {j},D j→a8 (H[·]?) i (some (.row c ty .froz)) j=H[j]? :=fun {j} G=>bM _ _ (fun e:j=i=>U (e ▸ G))
      have a1:bA D D α α (aN D α (H[·]?)) (aN D α (a8 (H[·]?) i (some (.row c ty .froz)))) w w:= ⟨fun _ h=>h,fun _ _=>rfl,fun b o I J=> ⟨fun h=>J ((aE b).1 h),I⟩⟩
      refine ⟨⟨fun j G=>by rw [O G];exact M.lt j G,M.below,M.cN,fun b a7 ab=>M.sep b a7 ((aE b).1 ab),M.fresh,fun a b bD b0 ha hb I J=> ?_,fun j k G I J ab=> ?_,fun j k G I=> ?_⟩,a1⟩
      ·rw [O ha] at I;rw [O hb] at J;exact M.inj a b bD b0 ha hb I J
      ·rw [O G] at I;exact M.db j k G I J (ab.elim .inl (fun h=> .inr ((aE _).1 h)))
      ·rw [O G] at I;exact cO.mono (a1.keeps B0) (fun o bx _=>bx) (M.cJ j k G I)
    ·have:gN H i=H:=by
      unfold gN
      rw [hi]
      split
      ·rename_i c ty h;cases h;exact absurd ⟨_,_,rfl⟩ hb
      ·rfl
     rw [this];exact ⟨M,bA.refl _ _ _ _⟩
  have J:=yr ids (H:=gN H i) a6.1
  unfold gO
  rw [List.foldl_cons]
  exact ⟨J.1,a6.2.trans J.2⟩
theorem Cz:∀ (ids:List Nat) (H:Hp) (i:Nat) (c:an) (ty:TypeId),(H[i]? =some (.row c ty .froz)∨H[i]? =some (.row c ty .live)∧i ∈ ids)→(gO ids H)[i]? =some (.row c ty .froz)
 | [],H,i,c,ty,h=>by
  rcases h with h | ⟨_,h⟩
  ·exact h
  ·cases h
 | j :: ids,H,i,c,ty,h=>by
  unfold gO
  rw [List.foldl_cons]
  apply Cz ids
  rw [Cy]
  by_cases I:i=j
  ·subst I
   left
   rw [if_pos rfl]
   rcases h with h | ⟨h,_⟩ <;> rw [h]
  ·rw [if_neg I]
   rcases h with h | ⟨h,G⟩
   ·exact .inl h
   ·rcases List.mem_cons.1 G with G | G
    ·exact absurd G I
    ·exact .inr ⟨h,G⟩
theorem KC:∀ (ids:List Nat) (H:Hp) (m:Nat),m ∉ ids→(gO ids H)[m]? =H[m]?
 | [],H,m,_=>rfl
 | j :: ids,H,m,h=>by
  unfold gO
  rw [List.foldl_cons]
  have G:m≠j:=fun e=>h (e ▸ List.mem_cons_self)
  have:=KC ids (gN H j) m (fun I=>h (List.mem_cons_of_mem _ I))
  unfold gO at this
  rw [this,Cy,if_neg G]
theorem M4 {v:AV} (h:rI v=true) {α α':Nat→Nat×Nat} {B B':Nat→Prop} {w w':World} {D D':Nat→Prop} {x:Value} (G:v.Rel P α B w D x):v.Rel P α' B' w' D' x:=by
 cases v with
 | val v=>exact G
 | agg cs=>
  obtain ⟨I,rfl,G⟩:=G
  refine ⟨I,rfl, ?_⟩
  simp only [rI] at h
  generalize I.toList=l at G
  induction cs generalizing l with
  | nil=>exact G
  | cons c cs O=>
   obtain ⟨y,zs,rfl,J,M⟩:=G
   rw [List.all_cons,Bool.and_eq_true] at h
   refine ⟨y,zs,rfl, ?_,O h.2 _ M⟩
   cases c with
   | val v=>exact J
   | _=>simp [isVal] at h
 | _=>simp [rI] at h
theorem Z3 {v:AV} (h:yx v=true) {α α':Nat→Nat×Nat} {B B':Nat→Prop} {w w':World} {D D':Nat→Prop} {x:Value} (G:v.Rel P α B w D x):v.Rel P α' B' w' D' x:=by
 cases v with
 | val v=>exact G
 | agg cs=>exact M4 (v:= .agg cs) h G
 | tup cs=>
  obtain ⟨I,rfl,G⟩:=G
  refine ⟨I,rfl, ?_⟩
  simp only [yx] at h
  generalize I.toList=l at G
  induction cs generalizing l with
  | nil=>exact G
  | cons c cs O=>
   obtain ⟨y,zs,rfl,J,M⟩:=G
   rw [List.all_cons,Bool.and_eq_true] at h
   exact ⟨y,zs,rfl,M4 h.1 J,O h.2 _ M⟩
 | _=>simp [yx,rI] at h
structure fk (x:Cx R):Prop where
 C:bf x.P x.E.C
 cf:G0 x.P x.cf
 yf:IQ x.P x.yf
theorem Ss {x:Cx R} (b3:fk x) {g:FuncId} {args:List AV} {H:Hp} {k:Kn R} {r:R} (h:sK x g args H k=some r):
  fQ x.P g=true∧∃ v G,k v G=some r∧H.length≤G.length∧(x.lo≤H.length→∀ m,m < x.lo→G[m]? =H[m]?)∧df x.P g args H v G∧(args.any owns=false→(x.E.C g args).isSome=true→G=H∧ss x.P g args v):=by
 unfold sK at h
 simp only [Bool.cond_eq_ite] at h
 split at h
 ·rename_i ct
  refine ⟨ct, ?_⟩
  have inline:x.cf x.lo g args H k=some r→∃ v G,k v G=some r∧H.length≤G.length∧(x.lo≤H.length→∀ m,m < x.lo→G[m]? =H[m]?)∧df x.P g args H v G:=fun c7=>b3.cf x.lo g args H k r ct c7
  split at h
  ·rename_i ab
   have c5:(∃ v G,k v G=some r∧H.length≤G.length∧(x.lo≤H.length→∀ m,m < x.lo→G[m]? =H[m]?)∧df x.P g args H v G)→∃ v G,k v G=some r∧H.length≤G.length∧(x.lo≤H.length→∀ m,m < x.lo→G[m]? =H[m]?)∧df x.P g args H v G∧(args.any owns=false→(x.E.C g args).isSome=true→G=H∧ss x.P g args v):=by
    rintro ⟨v,G,I,M,U,a6⟩
    exact ⟨v,G,I,M,U,a6,fun h=>by rw [ab] at h;cases h⟩
   apply c5
   split at h
   ·obtain ⟨b5,I,M,U⟩:=Ch (Q:=fun v b4=>∀ {B0:Nat→Prop} {w0:World} {D:Nat→Prop} {α:Nat→Nat×Nat} {I:Hf} {w:World},Ok x.P B0 w0 D α I w→qo H (cD H 8 [v]) I→∀ y,v.Rel x.P α (Own B0 D α I) w D y→b4.Rel x.P α (Own B0 D α I) w bc y) (fun v k r h=>Cv 8 v k r h) args _ r h
    unfold Jd at I
    simp only [Bool.cond_eq_ite] at I
    split at I
    ·rename_i rv b2
     split at I
     ·rename_i hb
      have c4:∀ (B0:Nat→Prop) (w0:World) (D:Nat→Prop) (α:Nat→Nat×Nat) (w:World) (J:Array Value),Ok x.P B0 w0 D α (H[·]?) w→aj x.P α (Own B0 D α (H[·]?)) w args D J.toList→
        CallsIn Fence.wide 0 x.P g J w (fun e w'=>∃ y,e= .returned y∧bm w.heap.size w w'∧rv.2.Rel x.P cp (Own B0 D α ((gO (cD H 8 args) H)[·]?)) w' bc y):=by
       intro B0 w0 D α w J O Z
       obtain ⟨aE,b0⟩:=yr (cD H 8 args) O
       have eb:=aj.mono _ _ (b0.keeps B0) Z
       have ec:aj x.P α (Own B0 D α ((gO (cD H 8 args) H)[·]?)) w b5 bc J.toList:=vq M (fun i v b4 c3 ed y eg=>U i v b4 c3 ed aE (fun j c ty st ch a1=>by
        apply Cz
        rcases a1 with ⟨rfl,a1⟩ | rfl
        ·refine .inr ⟨ch, ?_⟩
         simp only [cD,List.flatMap_cons,List.flatMap_nil,List.append_nil] at a1 ⊢
         exact List.mem_flatMap.2 ⟨v,List.mem_of_getElem? c3,a1⟩
        ·exact .inl ch) y eg) eb
       have c6:=b3.C g b5 rv.2 (by rw [b2];exact congrArg some (by rw [← hb])) (Own B0 D α ((gO (cD H 8 args) H)[·]?)) w J (Mf aE) (aj.mono _ _ ⟨fun _ h=>h,fun _ h=>h.elim,fun b cs ty fr I M=> ⟨M,I⟩⟩ ec)
       exact callsIn_wide.2 c6
      split at I
      ·rename_i ea
       refine ⟨_,H,I,Nat.le_refl _,fun _ _ _=>rfl,fun B0 w0 D α w J O Z=>(c4 B0 w0 D α w J O Z).mono ?_⟩
       rintro e w' ⟨y,rfl,bx,b1⟩
       obtain ⟨a7,bD⟩:=nS O bx
       exact ⟨y,D,α,rfl,a7,fun i hi=> .inl hi,bD,Z3 ea b1⟩
      ·split at I
       ·rename_i b6
        rw [List.all_eq_true] at b6
        refine ⟨_,_,I,by rw [KB];exact Nat.le_refl _,fun eh m ek=>KC _ _ _ (fun dx=> ?_),fun B0 w0 D α w J O Z=>(c4 B0 w0 D α w J O Z).mono ?_⟩
        ·have:=of_decide_eq_true (b6 m dx);omega
        ·rintro e w' ⟨y,rfl,bx,b1⟩
         obtain ⟨aE,b0⟩:=yr (cD H 8 args) O
         obtain ⟨a7,bD⟩:=nS aE bx
         exact ⟨y,D,α,rfl,a7,fun i hi=> .inl hi,b0.trans bD,LL b1⟩
       ·cases I
     ·cases I
    ·exact inline I
   ·exact inline h
  ·rename_i ab
   have ab:args.any owns=false:=by simpa using ab
   unfold Jf at h
   split at h
   ·rename_i rv b2
    simp only [Bool.cond_eq_ite] at h
    split at h
    ·rename_i hb
     have b7:=Sv b3.C (g:=g) (args:=args) (v:=rv.2) (by rw [b2];exact congrArg some (by rw [← hb])) ab
     exact ⟨rv.2,H,h,Nat.le_refl _,fun _ _ _=>rfl,b7.tv H,fun _ _=> ⟨rfl,b7⟩⟩
    ·cases h
   ·rename_i dy
    obtain ⟨v,G,I,M,U,a6⟩:=inline h
    exact ⟨v,G,I,M,U,a6,fun _ c0=>by rw [dy] at c0;cases c0⟩
 ·cases h
end
end Go.V
namespace Go.V
open Go Go.RowKit
section
variable {P : Program} {D D1 : Nat → Prop} {α α1 : Nat → Nat × Nat} {B B1 : Nat → Prop} {w : World} {ρ : Nat → Nat} {r : List Nat}
theorem C5 {v:AV} {x:Value} (J:∀ b,B1 b→B b) (h:v.Rel P α B w bc x):v.Rel P α1 B1 w bc x:=AV.Rel.mono v x ⟨fun _ h=>h,fun _ h=>h.elim,fun b cs ty fr G I=> ⟨fun h=>I (J b h),G⟩⟩ h
mutual
theorem aaM (J:∀ i ∈ r,D i→D1 (ρ i)∧α1 (ρ i)=α i) (O:∀ b,B1 b→B b):∀ (v:AV) (x:Value),(∀ i ∈ KU v,i ∈ r)→v.Rel P α B w D x→(rM ρ v).Rel P α1 B1 w D1 x
 | .any,x,hi,h=>trivial
 | .val v,x,hi,h=>h
 | .ptr i off,x,hi,h=>by
  obtain ⟨G,I⟩:=J i (hi i (List.mem_singleton.2 rfl)) h.1
  exact ⟨G,by rw [I];exact h.2⟩
 | .sl fl t i off len,x,hi,h=>by
  obtain ⟨G,I⟩:=J i (hi i (List.mem_singleton.2 rfl)) h.1
  exact ⟨G,by rw [I];exact h.2⟩
 | .lst fl t n f,x,hi,h=>C5 (v:= .lst fl t n f) (α:=α) O h
 | .eptr t n f j off,x,hi,h=>C5 (v:= .eptr t n f j off) (α:=α) O h
 | .agg cs,x,hi,h=>by
  obtain ⟨M,G,I⟩:=h
  exact ⟨M,G,mW J O cs _ hi I⟩
 | .tup cs,x,hi,h=>by
  obtain ⟨M,G,I⟩:=h
  exact ⟨M,G,mW J O cs _ hi I⟩
 | .clo ab a b,x,hi,h=>by
  obtain ⟨Z,M,G,I,U⟩:=h
  exact ⟨Z,M,G,mW J O a _ (fun i h=>hi i (List.mem_append_left _ h)) I,mW J O b _ (fun i h=>hi i (List.mem_append_right _ h)) U⟩
 | .yld i,x,hi,h=>by
  obtain ⟨G,I⟩:=J i (hi i (List.mem_singleton.2 rfl)) h.1
  exact ⟨G,by rw [I];exact h.2⟩
theorem mW (J:∀ i ∈ r,D i→D1 (ρ i)∧α1 (ρ i)=α i) (O:∀ b,B1 b→B b):∀ (l:List AV) (M:List Value),(∀ i ∈ fw l,i ∈ r)→aj P α B w l D M→aj P α1 B1 w (ff ρ l) D1 M
 | [],M,hi,h=>h
 | v :: l,M,hi,h=>by
  obtain ⟨y,zs,G,I,U⟩:=h
  exact ⟨y,zs,G,aaM J O v y (fun i h=>hi i (List.mem_append_left _ h)) I,mW J O l zs (fun i h=>hi i (List.mem_append_right _ h)) U⟩
end
mutual
theorem aaL:∀ v:AV,rM (fun i=>i) v=v
 | .any=>rfl
 | .val v=>rfl
 | .ptr i off=>rfl
 | .sl fl t i off len=>rfl
 | .lst fl t n f=>rfl
 | .eptr t n f j off=>rfl
 | .agg cs=>by unfold rM;rw [rN cs]
 | .tup cs=>by unfold rM;rw [rN cs]
 | .clo G a b=>by unfold rM;rw [rN a,rN b]
 | .yld i=>rfl
theorem rN:∀ l:List AV,ff (fun i=>i) l=l
 | []=>rfl
 | v :: l=>by unfold ff;rw [aaL v,rN l]
end
theorem CI (M:∀ i ∈ r,D i→D1 i) {l:List AV} {G:List Value} (hi:∀ i ∈ fw l,i ∈ r) (h:aj P α B w l D G):aj P α B w l D1 G:=by
 have:=mW (P:=P) (α1:=α) (D1:=D1) (B1:=B) (ρ:=fun i=>i) (r:=r) (fun i I J=> ⟨M i I J,rfl⟩) (fun _ h=>h) l G hi h
 rwa [rN] at this
theorem Q8 (Z:∀ i ∈ r,D i→D1 i) (c:an) {G:List Value} (hi:∀ i ∈ c.ids,i ∈ r) (h:aj P α B w c.aW D G):aj P α B w c.aW D1 G:=by
 have M:∀ (l:List AV),(∀ v ∈ l,∃ y,v= .val y)→∀ G,aj P α B w l D G→aj P α B w l D1 G:=by
  intro l
  induction l with
  | nil=>intro _ G h;exact h
  | cons v l ab=>
   intro J G h
   obtain ⟨y,zs,rfl,O,U⟩:=h
   obtain ⟨u,rfl⟩:=J v List.mem_cons_self
   exact ⟨y,zs,rfl,O,ab (fun v I=>J v (List.mem_cons_of_mem _ I)) zs U⟩
 cases c with
 | cells l=>exact CI Z hi h
 | ints k zs=>exact M _ (fun v I=>by obtain ⟨z,_,rfl⟩:=List.mem_map.1 I;exact ⟨_,rfl⟩) G h
 | vals vs=>exact M _ (fun v I=>by obtain ⟨z,_,rfl⟩:=List.mem_map.1 I;exact ⟨_,rfl⟩) G h
theorem Rc (U:∀ i ∈ r,D i→D1 i) {k:bI} {a:Nat×Nat} (hi:∀ i ∈ k.ids,i ∈ r) (h:cO P α B w D k a):cO P α B w D1 k a:=by
 cases k with
 | row c ty st=>
  rcases h with h | ⟨cs,fr,G,I,J,M,O⟩
  ·exact .inl h
  ·by_cases Z:st= .dead
   ·exact .inl Z
   ·exact .inr ⟨cs,fr,G,I,J,M,Q8 U c (fun i h=>hi i (by cases st <;> first | exact h | exact absurd rfl Z)) O⟩
 | loop aE=>
  obtain ⟨L,G,I,J,M,O,ab⟩:=h
  exact ⟨L,G,I,J,M,O,CI U hi ab⟩
theorem Su {g:FuncId} {args:List AV} {H aE:Hp} {v:AV} (e2:df P g args H v aE) (e7:∀ m,m < H.length→aE[m]? =H[m]?) (dx:sO r args H=true) (B0:Nat→Prop) (w0:World) (D:Nat→Prop) (α:Nat→Nat×Nat) (h:Hf) (w:World) (dy:Array Value)
  (b3:∀ m ∈ r,h m=H[m]?) (ab:Ok P B0 w0 D α h w) (ek:∀ i,H.length≤i→i < aE.length→¬ D i) (ev:aj P α (Own B0 D α h) w args D dy.toList):
  CallsIn Fence.wide 0 P g dy w fun e w'=>∃ y D' α',e= .returned y∧Ok P B0 w0 D' α' (cA h H aE (r.map fun i=>(i,false))) w'∧(∀ i,D' i→D i∨(H.length≤i∧i < aE.length))∧bA D D' α α' (aN D α h) (aN D' α' (cA h H aE (r.map fun i=>(i,false)))) w w'∧v.Rel P α' (Own B0 D' α' (cA h H aE (r.map fun i=>(i,false)))) w' D' y:=by
 classical
 unfold sO at dx
 simp only [Bool.and_eq_true,List.all_eq_true,List.contains_iff_mem] at dx
 obtain ⟨eu,fa⟩:=dx
 have c3:∀ i ∈ r,∃ b,H[i]? =some b∧∀ j ∈ b.ids,j ∈ r:=by
  intro i hi
  have:=fa i hi
  split at this
  ·rename_i b hb
   exact ⟨b,hb,fun j Z=>List.contains_iff_mem.1 (List.all_eq_true.1 this j Z)⟩
  ·cases this
 have fc:∀ i ∈ r,i < H.length:=fun i hi=>by obtain ⟨b,hb,_⟩:=c3 i hi;exact (List.getElem?_eq_some_iff.1 hb).1
 let b7:Nat→Prop:=fun i=>D i∧i ∈ r
 let X:Nat→Prop:=fun b=>∃ i k,D i∧i ∉ r∧h i=some k∧k.isLive=true∧(α i).1=b
 let B1:Nat→Prop:=fun b=>B0 b∨X b
 have a7:∀ b,aN D α h b↔aN b7 α (H[·]?) b∨X b:=by
  intro b
  constructor
  ·rintro ⟨i,k,G,I,J,U⟩
   by_cases hi:i ∈ r
   ·exact .inl ⟨i,k, ⟨G,hi⟩,(b3 i hi).symm.trans I,J,U⟩
   ·exact .inr ⟨i,k,G,hi,I,J,U⟩
  ·rintro (⟨i,k, ⟨G,hi⟩,I,J,U⟩ | ⟨i,k,G,hi,I,J,U⟩)
   ·exact ⟨i,k,G,(b3 i hi).trans I,J,U⟩
   ·exact ⟨i,k,G,I,J,U⟩
 have c6:Own B1 b7 α (H[·]?)=Own B0 D α h:=by
  funext b
  apply propext
  constructor
  ·rintro ((hb | hb) | hb)
   ·exact .inl hb
   ·exact .inr ((a7 b).2 (.inr hb))
   ·exact .inr ((a7 b).2 (.inl hb))
  ·rintro (hb | hb)
   ·exact .inl (.inl hb)
   ·rcases (a7 b).1 hb with hb | hb
    ·exact .inr hb
    ·exact .inl (.inr hb)
 have eg:∀ b,X b→¬ aN b7 α (H[·]?) b:=by
  rintro b ⟨i,k,G,I,J,U,a1⟩ ⟨j,l, ⟨e1,ea⟩,en,eo,ep⟩
  have:=ab.inj i j k l G e1 J ((b3 j ea).trans en) U eo (a1.trans ep.symm)
  subst this
  exact I ea
 have ed:Ok P B1 w0 b7 α (H[·]?) w:=by
  refine ⟨?_,ab.below, ?_, ?_,fun i hi=>ab.fresh i hi.1, ?_, ?_, ?_⟩
  ·rintro i ⟨hi,M⟩
   obtain ⟨b,hb,_⟩:=c3 i M
   exact ⟨b,hb⟩
  ·rintro b (hb | hb)
   ·exact ab.cN b hb
   ·have ez:aN D α h b:=(a7 b).2 (.inr hb)
    refine ⟨?_,fun ds e3=>Dd ab e3 ez⟩
    obtain ⟨i,k,G,_,_,_,rfl⟩:=hb
    exact (ab.fresh i G).2
  ·rintro b (hb | hb) O
   ·exact ab.sep b hb ((a7 b).2 (.inl O))
   ·exact eg b hb O
  ·rintro i j k l ⟨hi,M⟩ ⟨Z,b6⟩ G I
   exact ab.inj i j k l hi Z ((b3 i M).trans G) ((b3 j b6).trans I)
  ·rintro i k ⟨hi,M⟩ G I
   rw [c6]
   exact ab.db i k hi ((b3 i M).trans G) I
  ·rintro i k ⟨hi,M⟩ G
   rw [c6]
   obtain ⟨b,hb,eN⟩:=c3 i M
   have eb:H[i]? =some k:=G
   rw [hb] at eb
   cases eb
   exact Rc (fun i G I=> ⟨I,G⟩) eN (ab.cJ i _ hi ((b3 i M).trans G))
 refine (e2 B1 w0 b7 α w dy ed (by rw [c6];exact CI (fun i G I=> ⟨I,G⟩) eu ev)).mono ?_
 rintro e w' ⟨y,D',α',rfl,a6,c0,b5,fh⟩
 have fv:=KI ed a6 b5
 let b4:Nat→Prop:=fun i=>D' i∨(D i∧i ∉ r)
 let b2:Nat→Nat×Nat:=fun i=>if D i∧i ∉ r then α i else α' i
 have bx:∀ i,D' i→b2 i=α' i:=by
  intro i hi
  refine if_neg ?_
  rintro ⟨G,I⟩
  rcases c0 i hi with J | J
  ·exact I J.2
  ·exact ek i J.1 J.2 G
 have bD:∀ i,D i→i ∉ r→b2 i=α i:=fun i G I=>if_pos ⟨G,I⟩
 have b0:∀ i,D' i→cA h H aE (r.map fun i=>(i,false)) i=aE[i]? :=by
  intro i hi
  unfold cA
  split
  ·rfl
  ·rename_i e6
   rcases c0 i hi with J | J
   ·exact (b3 i J.2).trans (e7 i (fc i J.2)).symm
   ·exact absurd (.inr J) e6
 have b1:∀ i,D i→i ∉ r→cA h H aE (r.map fun i=>(i,false)) i=h i:=by
  intro i G I
  unfold cA
  rw [if_neg]
  rintro (J | J)
  ·obtain ⟨j,_,Z⟩:=List.mem_map.1 J
   cases Z
  ·exact ek i J.1 J.2 G
 have ct:∀ b,aN b4 b2 (cA h H aE (r.map fun i=>(i,false))) b↔aN D' α' (aE[·]?) b∨X b:=by
  intro b
  constructor
  ·rintro ⟨i,k,G | ⟨G,I⟩,J,U,a1⟩
   ·rw [b0 i G] at J
    rw [bx i G] at a1
    exact .inl ⟨i,k,G,J,U,a1⟩
   ·rw [b1 i G I] at J
    rw [bD i G I] at a1
    exact .inr ⟨i,k,G,I,J,U,a1⟩
  ·rintro (⟨i,k,G,I,J,U⟩ | ⟨i,k,G,I,J,U,a1⟩)
   ·exact ⟨i,k, .inl G,(b0 i G).trans I,J,by rw [bx i G];exact U⟩
   ·exact ⟨i,k, .inr ⟨G,I⟩,(b1 i G I).trans J,U,by rw [bD i G I];exact a1⟩
 have c7:Own B0 b4 b2 (cA h H aE (r.map fun i=>(i,false)))=Own B1 D' α' (aE[·]?):=by
  funext b
  apply propext
  constructor
  ·rintro (hb | hb)
   ·exact .inl (.inl hb)
   ·rcases (ct b).1 hb with hb | hb
    ·exact .inr hb
    ·exact .inl (.inr hb)
  ·rintro ((hb | hb) | hb)
   ·exact .inl hb
   ·exact .inr ((ct b).2 (.inr hb))
   ·exact .inr ((ct b).2 (.inl hb))
 have ec:bA D b4 α b2 (aN D α h) (aN b4 b2 (cA h H aE (r.map fun i=>(i,false)))) w w':=by
  refine ⟨fun i hi=> ?_,fun i hi=> ?_,fun b o G I=> ?_⟩
  ·by_cases M:i ∈ r
   ·exact .inl (b5.le i ⟨hi,M⟩)
   ·exact .inr ⟨hi,M⟩
  ·by_cases M:i ∈ r
   ·rw [bx i (b5.le i ⟨hi,M⟩)];exact b5.same i ⟨hi,M⟩
   ·exact bD i hi M
  ·have J:=b5.block b o G (fun O=>I ((a7 b).2 (.inl O)))
   exact ⟨fun O=>((ct b).1 O).elim J.1 (fun fs=>I ((a7 b).2 (.inr fs))),J.2⟩
 have eh:eY D' b4 α' b2 (Own B1 D' α' (aE[·]?)) (Own B0 b4 b2 (cA h H aE (r.map fun i=>(i,false)))) w' w':= ⟨fun i hi=> .inl hi,bx,fun b cs ty fr G I=> ⟨by rw [c7];exact I,G⟩⟩
 have e4:=ec.keeps B0
 refine ⟨y,b4,b2,rfl, ⟨?_,a6.below,fun b hb=>a6.cN b (.inl hb), ?_, ?_, ?_, ?_, ?_⟩, ?_,ec,AV.Rel.mono _ _ eh fh⟩
 ·rintro i (hi | ⟨hi,M⟩)
  ·rw [b0 i hi];exact a6.lt i hi
  ·rw [b1 i hi M];exact ab.lt i hi
 ·intro b hb O
  rcases (ct b).1 O with O | O
  ·exact a6.sep b (.inl hb) O
  ·exact ab.sep b hb ((a7 b).2 (.inr O))
 ·rintro i (hi | ⟨hi,M⟩)
  ·rw [bx i hi];exact a6.fresh i hi
  ·rw [bD i hi M]
   have:=ab.fresh i hi
   omega
 ·rintro i j k l (hi | ⟨hi,M⟩) (Z | ⟨Z,b6⟩) G I J U a1
  ·rw [b0 i hi] at G
   rw [b0 j Z] at I
   rw [bx i hi,bx j Z] at a1
   exact a6.inj i j k l hi Z G I J U a1
  ·rw [b0 i hi] at G
   rw [b1 j Z b6] at I
   rw [bx i hi,bD j Z b6] at a1
   exact absurd ⟨i,k,hi,G,J,rfl⟩ (a6.sep (α' i).1 (.inr ⟨j,l,Z,b6,I,U,a1.symm⟩))
  ·rw [b1 i hi M] at G
   rw [b0 j Z] at I
   rw [bD i hi M,bx j Z] at a1
   exact absurd ⟨j,l,Z,I,U,rfl⟩ (a6.sep (α' j).1 (.inr ⟨i,k,hi,M,G,J,a1⟩))
  ·rw [b1 i hi M] at G
   rw [b1 j Z b6] at I
   rw [bD i hi M,bD j Z b6] at a1
   exact ab.inj i j k l hi Z G I J U a1
 ·rintro i k (hi | ⟨hi,M⟩) G I O
  ·rw [b0 i hi] at G
   rw [bx i hi,c7] at O
   exact a6.db i k hi G I O
  ·rw [b1 i hi M] at G
   rw [bD i hi M,c7,] at O
   have c4:=ab.db i k hi G I
   rcases O with (O | O) | O
   ·exact c4 (.inl O)
   ·exact c4 (.inr ((a7 _).2 (.inr O)))
   ·have e5:=(ab.fresh i hi).2
    have et:=b5.block _ _ (Array.getElem?_eq_getElem e5) (fun O=>c4 (.inr ((a7 _).2 (.inl O))))
    exact et.1 O
 ·rintro i k (hi | ⟨hi,M⟩) G
  ·rw [b0 i hi] at G
   rw [bx i hi]
   exact cO.mono eh (fun o c5 _=>c5) (a6.cJ i k hi G)
  ·rw [b1 i hi M] at G
   rw [bD i hi M]
   refine cO.mono e4 (fun o c5 ch=> ?_) (ab.cJ i k hi G)
   refine (b5.block _ o c5 (fun O=> ?_)).2
   rcases ch with ch | ch
   ·exact eg _ ⟨i,k,hi,M,G,ch,rfl⟩ O
   ·exact ab.db i k hi G ch (.inr ((a7 _).2 (.inl O)))
 ·rintro i (hi | ⟨hi,_⟩)
  ·exact (c0 i hi).elim (fun h=> .inl h.1) .inr
  ·exact .inl hi
end
end Go.V
namespace Go.V
open Go Go.RowKit
section
variable {R : Type} {P : Program} {ro : Option Nat} {T : List AV} {o : Oper} {H : Hp} {k : Kn R} {r : R}
theorem NU {c:Call} {f:Operand} (a1:o.op= .call c) (M:c.callee= .value f) {a:Act} {w:World} {g:FuncId} {O U:Array Value} (ab:a.eval f= .func (.func g) O U) (G:fQ P g=true):(execOp a.eval o).run P w= .ok (.enter g (O ++ c.args.map a.eval ++ U)) w:=by
 obtain ⟨a7,a6,ts⟩:=c
 simp only at M
 subst M
 unfold fQ at G
 cases J:P.funcs[g]? with
 | none=>rw [J] at G;cases G
 | some I=>
  rw [J] at G
  simp only [Bool.and_eq_true,Bool.not_eq_true',beq_eq_false_iff_ne] at G
  have hb:I.body.isNone=false:=by
   cases Z:I.body with
   | none=>rw [Z] at G;simp at G
   | some c=>rfl
  have aE : (I.name == "runtime.NumGoroutine") = false := by simpa using G.2
  unfold execOp
  rw [a1]
  simp only [resolve,ab,Deferred.ofValue,Sem.run_bind,Sem.run_pure,Result.andThen,invoke,callFunc,run_program,J,aE,hb,Bool.false_eq_true,if_false]
theorem Jh {a:Act} {w:World} {g:FuncId} {zs:Array Value} {K:Act→World→Prop} {Q:Exit→Act→World→Prop} {G:Ending→World→Prop} (Z:∀ c,o.op≠ .defer c) (ab:(execOp a.eval o).run P w= .ok (.enter g zs) w) (J:CallsIn Fence.wide 0 P g zs w G) (I:∀ e w',G e w'→∃ y,e= .returned y∧K (a.put o.dst y) w'):o.wpIn (W ro) 0 P a w K Q:=by
 refine ⟨fun _ _=>trivial, ?_⟩
 rw [Oper.semAt_eq _ _ _ Z,ab,Oper.uponIn_enter]
 refine ⟨(fun h=>by cases h), ?_⟩
 have M:CallsIn (W ro) (0 - 1) P g zs w G:=J
 refine M.mono ?_
 intro e w' O
 obtain ⟨y,rfl,U⟩:=I e w' O
 exact U
theorem DX {D:Nat→Prop} {α:Nat→Nat×Nat} {B:Nat→Prop} {w:World} {a:Act} (G:Array Operand) (h:∀ x ∈ G,(aB T x).Rel P α B w D (a.eval x)):aj P α B w (G.toList.map (aB T)) D (G.map a.eval).toList:=by
 rw [Array.toList_map]
 exact yQ _ (fun x I=>h x (Array.mem_toList_iff.1 I))
theorem BW (D:Nat→Prop) {α:Nat→Nat×Nat} {B:Nat→Prop} {w:World} :∀ (l:List Value),aj P α B w (l.map gJ) D l
 | []=>rfl
 | v :: l=> ⟨v,l,rfl,toAV1_rel v,BW D l⟩
theorem Cu {I:AV} {g:FuncId} {G cap:List AV} (U:I= .clo (.func g) G cap∨∃ a b:Array Value,I= .val (.func (.func g) a b)∧G=a.toList.map gJ∧cap=b.toList.map gJ) {D:Nat→Prop} {α:Nat→Nat×Nat} {B:Nat→Prop} {w:World} {u:Value} (J:I.Rel P α B w D u):
  ∃ M O:Array Value,u= .func (.func g) M O∧aj P α B w G D M.toList∧aj P α B w cap D O.toList:=by
 rcases U with rfl | ⟨a,b,rfl,rfl,rfl⟩
 ·exact J
 ·exact ⟨a,b,J,BW D _,BW D _⟩
theorem Vm {c:Call} {f:Operand} (G:o.op= .call c) (O:c.callee= .value f) {g:FuncId} {J cap:List AV} (b0:aB T f= .clo (.func g) J cap∨∃ a b:Array Value,aB T f= .val (.func (.func g) a b)∧J=a.toList.map gJ∧cap=b.toList.map gJ) (b2:fQ P g=true) {v:AV} {I:Hp}
  (bx:df P g (J ++ c.args.toList.map (aB T) ++ cap) H v I) (B0:Nat→Prop) (w0:World):ow P B0 w0 ro T o (H[·]?) (H[·]?) H.length I.length v (I[·]?) true:=by
 intro ro D α a w K Q a6 b7 M a1
 have b3:∀ c,o.op≠ .defer c:=fun c h=>by rw [G] at h;cases h
 have b1:f ∈ o.op.operands:=by rw [G];simp [Op.operands,Call.operands,O]
 obtain ⟨ch,ct,bD,b4,b5⟩:=Cu b0 (M f b1)
 have a7:=DX (P:=P) (T:=T) (D:=D) (α:=α) (B:=Own B0 D α (H[·]?)) (w:=w) (a:=a) c.args (fun x b6=>M x (by rw [G];simp only [Op.operands,Call.operands,Array.mem_append];exact .inr b6))
 refine Jh b3 (NU G O bD b2) (bx B0 w0 D α w _ a6 (by rw [Array.toList_append,Array.toList_append];exact aj.append (aj.append b4 a7) b5)) ?_
 rintro e w' ⟨y,D',α',rfl,U,Z,ab,aE⟩
 exact ⟨y,rfl,a1 D' α' w' y U Z ab aE⟩
theorem Vn {c:Call} {f:Operand} (J:o.op= .call c) (M:c.callee= .value f) {i:Nat} (b5:aB T f= .yld i) {v:AV} {G:Hp} (b3:IS P i (c.args.toList.map (aB T)) H v G) (B0:Nat→Prop) (w0:World):ow P B0 w0 ro T o (H[·]?) (H[·]?) H.length G.length v (G[·]?) true:=by
 intro ro D α a w K Q bD c5 ab bx
 have b7:∀ c,o.op≠ .defer c:=fun c h=>by rw [J] at h;cases h
 have b6:f ∈ o.op.operands:=by rw [J];simp [Op.operands,Call.operands,M]
 have I:=ab f b6
 rw [b5] at I
 obtain ⟨hi,b4⟩:=I
 have b2:=DX (P:=P) (T:=T) (D:=D) (α:=α) (B:=Own B0 D α (H[·]?)) (w:=w) (a:=a) c.args (fun x ct=>ab x (by rw [J];simp only [Op.operands,Call.operands,Array.mem_append];exact .inr ct))
 obtain ⟨Z,aE,O,U,c0,b0⟩:=b3 B0 w0 D α w (c.args.map a.eval) bD hi b2
 have ch:(execOp a.eval o).run P w= .ok (.round (α i).1 Z aE O U) w:=by
  obtain ⟨c4,c3,ts⟩:=c
  simp only at M
  subst M
  unfold execOp
  rw [J]
  simp only [resolve,b4,Deferred.ofValue,Sem.run_bind,Sem.run_pure,Result.andThen,invoke,Array.empty_append]
  simpa using c0
 refine ⟨fun _ _=>trivial, ?_⟩
 rw [Oper.semAt_eq _ _ _ b7,ch,Oper.uponIn_round]
 refine ⟨(fun h=>by cases h), ?_⟩
 have b1:RoundIn (W ro) (0 - 1) P (α i).1 Z aE O U w (sj P B0 w0 D α (H[·]?) w H.length G.length v (G[·]?)):=b0
 refine b1.mono ?_
 rintro e w' ⟨y,D',α',rfl,I,a1,a6,a7⟩
 exact bx D' α' w' y I a1 a6 a7
theorem ba.all {O:Tch} {lo:Nat} (h:ba P ro T o H O lo k r):ba P ro T o H .all lo k r:=by
 obtain ⟨v,I,J,M,G⟩:=h
 exact ⟨v,I,J,M,fun B0 w0=> ⟨(G B0 w0).1,(G B0 w0).tv⟩⟩
theorem KN {v:AV} {J:Hp} (c0:H.length≤J.length) (b4:∀ m,m < H.length→J[m]? =H[m]?) (ct:∀ B0 w0,ow P B0 w0 ro T o (H[·]?) (H[·]?) H.length J.length v (J[·]?) true) (B0:Nat→Prop) (w0:World):l8 P B0 w0 ro T o H v J (.some true []):=by
 refine ⟨c0,fun m c4 _=>b4 m c4,fun h c7 ro D α a w K Q O bD ch b6=> ?_⟩
 have c3:∀ i,D i→i < H.length:=fun i hi=>by
  rcases Nat.lt_or_ge i H.length with h | h
  ·exact h
  ·exact absurd hi (bD.1 i h (.inr rfl))
 have U:∀ i,D i→h i=H[i]? :=fun i hi=>bD.2 rfl i hi
 have b2:∀ b,aN D α h b↔aN D α (H[·]?) b:=by
  intro b
  constructor
  ·rintro ⟨i,k,G,I,M⟩;exact ⟨i,k,G,(U i G).symm.trans I,M⟩
  ·rintro ⟨i,k,G,I,M⟩;exact ⟨i,k,G,(U i G).trans I,M⟩
 have b0:aN D α h=aN D α (H[·]?):=funext fun b=>propext (b2 b)
 have a7:Own B0 D α h=Own B0 D α (H[·]?):=by funext b;unfold Own;rw [b0]
 have b7:Ok P B0 w0 D α (H[·]?) w:=by
  refine ⟨fun i hi=> ?_,O.below,O.cN,fun b hb ab=>O.sep b hb ((b2 b).2 ab),O.fresh,fun i j k l hi aE G I=> ?_,fun i k hi G I ab=> ?_,fun i k hi G=> ?_⟩
  ·have:=O.lt i hi;rwa [U i hi] at this
  ·exact O.inj i j k l hi aE ((U i hi).trans G) ((U j aE).trans I)
  ·exact O.db i k hi ((U i hi).trans G) I (by rw [a7];exact ab)
  ·rw [← a7];exact O.cJ i k hi ((U i hi).trans G)
 refine ct B0 w0 ro D α a w K Q b7 ⟨fun i hi _=>bD.1 i hi (.inr rfl),fun _ _ _=>rfl⟩ (fun x c6=>by rw [← a7];exact ch x c6) (fun D' α' w' x G I M b5=> ?_)
 have Z:∀ i,D' i→cA h H J [] i=J[i]? :=by
  intro i hi
  unfold cA
  split
  ·rfl
  ·rename_i c5
   rcases I i hi with a1 | a1
   ·rw [U i a1];exact (b4 i (c3 i a1)).symm
   ·exact absurd (.inr a1) c5
 have b3:∀ b,aN D' α' (cA h H J []) b↔aN D' α' (J[·]?) b:=by
  intro b
  constructor
  ·rintro ⟨i,k,G,I,M⟩;exact ⟨i,k,G,(Z i G).symm.trans I,M⟩
  ·rintro ⟨i,k,G,I,M⟩;exact ⟨i,k,G,(Z i G).trans I,M⟩
 have b1:aN D' α' (cA h H J [])=aN D' α' (J[·]?):=funext fun b=>propext (b3 b)
 have bx:Own B0 D' α' (cA h H J [])=Own B0 D' α' (J[·]?):=by funext b;unfold Own;rw [b1]
 refine b6 D' α' w' x ⟨fun i hi=> ?_,G.below,G.cN,fun b hb ab=>G.sep b hb ((b3 b).1 ab),G.fresh,fun i j k l hi aE e1 a6=> ?_,fun i k hi e1 a6 ab=> ?_,fun i k hi e1=> ?_⟩ I (by rw [b0,b1];exact M) (by rw [bx];exact b5)
 ·have:=G.lt i hi;rwa [Z i hi]
 ·exact G.inj i j k l hi aE ((Z i hi).symm.trans e1) ((Z j aE).symm.trans a6)
 ·exact G.db i k hi ((Z i hi).symm.trans e1) a6 (by rw [← bx];exact ab)
 ·rw [bx];exact G.cJ i k hi ((Z i hi).symm.trans e1)
theorem acy {x:Cx R} (bx:fk x) (c0:x.P=P) {c:Call} {f:Operand} (ab:o.op= .call c) (aE:c.callee= .value f) (h:EU x (aB T f) (c.args.toList.map (aB T)) H k=some r):
  ba P ro T o H .all x.lo k r∧(x.lo=H.length→ba P ro T o H (fi x.E T H c) x.lo k r):=by
 subst c0
 have b3:fi x.E T H c=zQ H (funcOf (aB T f)) (c.args.toList.map (aB T)):=by
  unfold fi
  rw [aE]
 have bD:∀ {g:FuncId} {I cap:List AV},funcOf (aB T f)=some (g,I,cap)→(aB T f= .clo (.func g) I cap∨∃ a b:Array Value,aB T f= .val (.func (.func g) a b)∧I=a.toList.map gJ∧cap=b.toList.map gJ)→sK x g (I ++ c.args.toList.map (aB T) ++ cap) H k=some r→
   ba x.P ro T o H .all x.lo k r∧(x.lo=H.length→ba x.P ro T o H (fi x.E T H c) x.lo k r):=by
  intro g I cap c7 b1 c4
  obtain ⟨b2,v,U,J,M,G,a7,ek⟩:=Ss bx c4
  have a6:=fun B0 w0=>Vm (ro:=ro) ab aE b1 b2 a7 B0 w0
  refine ⟨⟨v,U,J,G,fun B0 w0=> ⟨M,a6 B0 w0⟩⟩,fun dy=> ?_⟩
  rw [b3,c7]
  unfold zQ GB
  simp only
  cases a1:sO (reach H 60 (fw (I ++ c.args.toList.map (aB T) ++ cap)) []) (I ++ c.args.toList.map (aB T) ++ cap) H with
  | false=>exact ⟨v,U,J,G,fun B0 w0=>KN M (fun m Z=>G (by omega) m (by omega)) a6 B0 w0⟩
  | true=>
   simp only [cond]
   generalize reach H 60 (fw (I ++ c.args.toList.map (aB T) ++ cap)) []=eh at a1
   refine ⟨v,U,J,G,fun B0 w0=> ⟨M,fun m Z _=>G (by omega) m (by omega),fun h dx ro D α a w K Q ct eb b0 ch=> ?_⟩⟩
   have ea:∀ c,o.op≠ .defer c:=fun c h=>by rw [ab] at h;cases h
   have c6:f ∈ o.op.operands:=by rw [ab];simp [Op.operands,Call.operands,aE]
   obtain ⟨en,eo,c5,ec,ed⟩:=Cu b1 (b0 f c6)
   have c3:=DX (P:=x.P) (T:=T) (D:=D) (α:=α) (B:=Own B0 D α h) (w:=w) (a:=a) c.args (fun x bx=>b0 x (by rw [ab];simp only [Op.operands,Call.operands,Array.mem_append];exact .inr bx))
   have eg:∀ i ∈ eh,i < H.length:=by
    intro i hi
    unfold sO at a1
    rw [Bool.and_eq_true] at a1
    have:=List.all_eq_true.1 a1.2 i hi
    split at this
    ·rename_i b hb;exact (List.getElem?_eq_some_iff.1 hb).1
    ·cases this
   refine Jh ea (NU ab aE c5 b2) (Su a7 (fun m Z=>G (by omega) m (by omega)) a1 B0 w0 D α h w _ (fun m Z=>dx m ⟨false,List.mem_map.2 ⟨m,Z,rfl⟩⟩ (eg m Z)) ct (fun i J M=>eb.1 i J (.inl M)) (by rw [Array.toList_append,Array.toList_append];exact aj.append (aj.append ec c3) ed)) ?_
   rintro e w' ⟨y,D',α',rfl,e1,b4,b5,b6⟩
   exact ⟨y,rfl,ch D' α' w' y e1 b4 b5 b6⟩
 unfold EU at h
 split at h
 ·rename_i v O
  split at h
  ·rename_i b7 a b
   split at h
   ·rename_i g
    exact bD (by rw [O];rfl) (.inr ⟨a,b,O,rfl,rfl⟩) h
   ·cases h
  ·cases h
 ·rename_i b7 a b O
  split at h
  ·rename_i g
   exact bD (by rw [O];rfl) (.inl O) h
  ·cases h
 ·rename_i i O
  obtain ⟨v,U,J,M,G,a7⟩:=bx.yf x.lo i _ H k r h
  have a6:=fun B0 w0=>Vn (ro:=ro) ab aE O a7 B0 w0
  refine ⟨⟨v,U,J,G,fun B0 w0=> ⟨M,a6 B0 w0⟩⟩,fun dy=> ?_⟩
  rw [b3,O]
  exact ⟨v,U,J,G,fun B0 w0=>KN M (fun m Z=>G (by omega) m (by omega)) a6 B0 w0⟩
 ·cases h
theorem ab7 {x:Cx R} (b4:fk x) (U:x.P=P) {c:Call} (I:o.op= .call c) (h:EH x T o c H k=some r):
  ba P ro T o H .all x.lo k r∧(x.lo=H.length∨jJ o.op=false→ba P ro T o H (fi x.E T H c) x.lo k r):=by
 have two:∀ {ab:Tch},ba P ro T o H ab x.lo k r→fi x.E T H c=ab→ba P ro T o H .all x.lo k r∧(x.lo=H.length∨jJ o.op=false→ba P ro T o H (fi x.E T H c) x.lo k r):=by
  intro ab a6 O
  rw [O]
  exact ⟨a6.all,fun _=>a6⟩
 have Z:∀ c,o.op≠ .defer c:=fun c h=>by rw [I] at h;cases h
 unfold EH at h
 split at h
 ·rename_i f G
  unfold Od at h
  split at h
  ·rename_i v aE
   rw [U] at aE
   have O:∃ rd l,fi x.E T H c= .some rd l∧∀ m,(m,true) ∉ l:=by
    unfold fi
    rw [G]
    simp only
    unfold zQ
    split
    ·unfold GB
     rw [Bool.cond_eq_ite]
     split
     ·exact ⟨_,_,rfl,fun m J=>by obtain ⟨j,_,b1⟩:=List.mem_map.1 J;cases b1⟩
     ·exact ⟨_,_,rfl,fun m J=>by simp at J⟩
    ·exact ⟨_,_,rfl,fun m J=>by simp at J⟩
   obtain ⟨rd,l,O,b2⟩:=O
   exact two (acd I G aE h rd b2) O
  obtain ⟨a7,bx⟩:=acy (ro:=ro) b4 U I G h
  refine ⟨a7,fun b3=>bx (b3.resolve_right (fun a1=> ?_))⟩
  rw [I] at a1
  obtain ⟨b6,b5,ts⟩:=c
  simp only at G
  subst G
  simp [jJ] at a1
 ·rename_i b G
  have M:b≠ .append→b≠ .unsafeString→b≠ .clear→fi x.E T H c= .some false []:=by
   intro hb bD b0
   unfold fi
   rw [G]
   split
   ·rename_i e;cases e;exact absurd rfl hb
   ·rename_i e;cases e;exact absurd rfl bD
   ·rename_i e;cases e;exact absurd rfl b0
   ·rfl
   ·rename_i e;cases e
   ·rename_i e _;exact absurd rfl (e b)
  unfold Oc at h
  rw [U] at h
  split at h
  ·exact two (ack I G h) (M (by simp) (by simp) (by simp))
  ·exact two (step_append (E:=x.E) I G h) rfl
  ·exact two (acb I G h) (M (by simp) (by simp) (by simp))
  ·exact two (acx I G h) (by unfold fi;rw [G];cases c.args.toList <;> rfl)
  ·exact two (ab8 I G h) (by unfold fi;rw [G];rfl)
  ·exact two (pR Z h) (M (by simp) (by simp) (by simp))
  ·exact two (pR Z h) (M (by simp) (by simp) (by simp))
  ·exact two (pR Z h) (M (by simp) (by simp) (by simp))
  ·cases h
 ·cases h
theorem acv {x:Cx R} (aE:fk x) (J:x.P=P) (h:EP x T o H k=some r):
  ba P ro T o H .all x.lo k r∧(x.lo=H.length∨jJ o.op=false→ba P ro T o H (cT x.E T H o) x.lo k r):=by
 have two:∀ {I:Tch},ba P ro T o H I x.lo k r→cT x.E T H o=I→ba P ro T o H .all x.lo k r∧(x.lo=H.length∨jJ o.op=false→ba P ro T o H (cT x.E T H o) x.lo k r):=by
  intro I M ab
  rw [ab]
  exact ⟨M.all,fun _=>M⟩
 unfold EP at h
 rw [J] at h
 split at h
 ·rename_i G;exact two (OB (.inl G) h) (by unfold cT;rw [G])
 ·rename_i G;exact two (OB (.inr G) h) (by unfold cT;rw [G])
 ·rename_i G;exact two (acq G h) (by unfold cT;rw [G])
 ·rename_i G;exact two (ab0 G h) (by unfold cT;rw [G])
 ·rename_i G;exact two (ab4 G h) (by unfold cT;rw [G])
 ·rename_i G;exact two (ab5 G h) (by unfold cT;rw [G])
 ·rename_i G;exact two (ab6 G h) (by unfold cT;rw [G])
 ·rename_i G;exact two (acm G h) (by unfold cT;rw [G])
 ·rename_i G;exact two (acw G h) (by unfold cT;rw [G])
 ·rename_i G;exact two (acf G h) (by unfold cT;rw [G])
 ·rename_i G;exact two (acg G h) (by unfold cT;rw [G])
 ·rename_i G;exact two (acj G h) (by unfold cT;rw [G])
 ·rename_i G;exact two (aci G h) (by unfold cT;rw [G])
 ·rename_i G;exact two (acu G h) (by unfold cT;rw [G])
 ·rename_i G;exact two (aca G h) (by unfold cT;rw [G])
 ·rename_i G;exact two (acn G h) (by unfold cT;rw [G])
 ·rename_i G;exact two (aco G h) (by unfold cT;rw [G])
 ·rename_i G;exact two (acp G h) (by unfold cT;rw [G])
 ·rename_i G;exact two (ab3 G h) (by unfold cT;rw [G])
 ·rename_i G;exact two (ace G h) (by unfold cT;rw [G])
 ·rename_i c G
  obtain ⟨O,U⟩:=ab7 (ro:=ro) aE J G h
  exact ⟨O,fun Z=>by have:=U Z;unfold cT;rw [G];exact this⟩
 ·rename_i G;exact two (pR (fun c h=>by rw [G] at h;cases h) h) (by unfold cT;rw [G])
 ·cases h
end
end Go.V
namespace Go.V
open Go Go.RowKit
section
variable {ops : Array Oper}
structure Order (ops:Array Oper) (m:Nat) (c:Nat→List Nat):Prop where
 le:m≤ops.size
 tail:∀ d,d < ops.size→m≤d→∀ i,i < d→i ∈ c d
 tB:∀ d,d < ops.size→∃ o,ops[d]? =some o∧(∀ e ∈ gL o,e < d)∧∀ i ∈ c d,i ∈ gL o∨∃ e ∈ gL o,i ∈ c e
 head:∀ i,i < m→∃ o,ops[i]? =some o∧∀ j,j < m→∃ o',ops[j]? =some o'∧(i=j∨o.dst=none∨o.dst≠o'.dst)∧∀ t,o'.dst=some t→t ∈ o.looksAt ops→j ∈ c i∨i ∈ c j
theorem ZD (h:B5 ops=true):Order ops (cw ops) (fun d=>(mf ops.toList).getD d []):=by
 unfold B5 at h
 simp only [Bool.and_eq_true,beq_iff_eq,decide_eq_true_eq] at h
 obtain ⟨⟨⟨⟨a1,J⟩,M⟩,ab⟩,O⟩:=h
 simp only [Array.length_toList] at a1 J M ab O
 have bx:CE (mf ops.toList) ops.size=cw ops:=rfl
 rw [bx] at J M O
 generalize mf ops.toList=c at*
 generalize cw ops=m at*
 have Z:∀ i:Nat,ops.toList[i]? =ops[i]? :=fun i=>Array.getElem?_toList
 refine ⟨M, ?_, ?_, ?_⟩
 ·intro d U b1 i hi
  unfold FI at J
  have:=List.all_eq_true.1 J d (List.mem_range.2 U)
  rw [Bool.or_eq_true,decide_eq_true_eq] at this
  rcases this with this | this
  ·omega
  ·exact List.contains_iff_mem.1 (List.all_eq_true.1 this i (List.mem_range.2 hi))
 ·intro d U
  have:=List.all_eq_true.1 ab d (List.mem_range.2 U)
  rw [Z] at this
  cases I:ops[d]? with
  | none=>rw [I] at this;cases this
  | some o=>
   rw [I] at this
   simp only [Bool.and_eq_true,List.all_eq_true,decide_eq_true_eq,Bool.or_eq_true,List.any_eq_true,List.contains_iff_mem] at this
   exact ⟨o,rfl,this.1,this.2⟩
 ·intro i hi
  have:=List.all_eq_true.1 O i (List.mem_range.2 hi)
  rw [Z] at this
  cases I:ops[i]? with
  | none=>rw [I] at this;cases this
  | some o=>
   rw [I] at this
   refine ⟨o,rfl,fun j a6=> ?_⟩
   have:=List.all_eq_true.1 this j (List.mem_range.2 a6)
   rw [Z] at this
   cases aE:ops[j]? with
   | none=>rw [aE] at this;cases this
   | some b0=>
    rw [aE] at this
    simp only [Bool.and_eq_true,Bool.or_eq_true,beq_iff_eq,Bool.not_eq_true',beq_eq_false_iff_ne,Option.isNone_iff_eq_none] at this
    refine ⟨b0,rfl, ?_, ?_⟩
    ·rcases this.1 with (h | h) | h
     ·exact .inl h
     ·exact .inr (.inl h)
     ·exact .inr (.inr h)
    ·intro t bD a7
     have G:=this.2
     rw [bD] at G
     simp only [Bool.or_eq_true,Bool.not_eq_true',List.contains_iff_mem] at G
     rcases G with G | G
     ·rw [← Bool.not_eq_true,List.contains_iff_mem] at G;exact absurd a7 G
     ·exact G
variable {m : Nat} {c : Nat → List Nat}
theorem Order.lt (h:Order ops m c):∀ d,d < ops.size→∀ i ∈ c d,i < d:=by
 intro d
 induction d using Nat.strongRecOn with
 | _ d U=>
  intro O i hi
  obtain ⟨o,Z,I,J⟩:=h.tB d O
  rcases J i hi with G | ⟨e,G,M⟩
  ·exact I i G
  ·have:=I e G
   have:=U e this (by omega) i M
   omega
def su (ops:Array Oper) (b:Nat→Bool):Prop:=∀ d o,ops[d]? =some o→b d=true→∀ e ∈ gL o,b e=true
theorem Order.up (h:Order ops m c) {b:Nat→Bool} (hb:su ops b):∀ d,d < ops.size→(∀ o,ops[d]? =some o→∀ e ∈ gL o,b e=true)→∀ i ∈ c d,b i=true:=by
 intro d
 induction d using Nat.strongRecOn with
 | _ d a1=>
  intro Z I i hi
  obtain ⟨o,J,M,O⟩:=h.tB d Z
  rcases O i hi with G | ⟨e,G,U⟩
  ·exact I o J i G
  ·have ab:=M e G
   exact a1 e ab (by omega) (fun a6 aE=>hb e a6 aE (I o J e G)) i U
def lb (listed:Array Bool) (j:Nat):Bool:=listed.getD j false
theorem vp {listed:Array Bool} (Z:listed.size=ops.size) (i:Nat):i ∈ Region.ready .any ops listed↔∃ o,ops[i]? =some o∧lb listed i=false∧∀ e ∈ gL o,lb listed e=true:=by
 unfold Region.ready
 rw [List.mem_filter,List.mem_range]
 constructor
 ·rintro ⟨hi,h⟩
  rw [Bool.and_eq_true] at h
  have M:ops[i]? =some ops[i]:=Array.getElem?_eq_getElem hi
  refine ⟨ops[i],M, ?_, ?_⟩
  ·have G:=h.1
   unfold lb
   rw [Array.getD_eq_getD_getElem?,Array.getElem?_eq_getElem (by omega)] at G ⊢
   simpa using G
  ·have J:=h.2
   rw [M] at J
   simp only [Option.map_some,Option.getD_some,Array.all_eq_true_iff_forall_mem,Bool.or_eq_true,Bool.not_eq_true'] at J
   intro e U
   unfold gL at U
   rw [List.mem_map] at U
   obtain ⟨x,I,rfl⟩:=U
   rw [List.mem_filter] at I
   rcases J x (Array.mem_toList_iff.1 I.1) with O | O
   ·rw [O] at I;cases I.2
   ·exact O
 ·rintro ⟨o,M,G,J⟩
  have hi:i < ops.size:=(Array.getElem?_eq_some_iff.1 M).1
  refine ⟨hi, ?_⟩
  rw [Bool.and_eq_true,M]
  constructor
  ·unfold lb at G
   rw [Array.getD_eq_getD_getElem?,Array.getElem?_eq_getElem (by omega)] at G ⊢
   simpa using G
  ·simp only [Option.map_some,Option.getD_some,Array.all_eq_true_iff_forall_mem,Bool.or_eq_true,Bool.not_eq_true']
   intro x I
   cases hb:Region.binds .any x with
   | false=>exact .inl rfl
   | true=>
    refine .inr (J x.on ?_)
    unfold gL
    exact List.mem_map.2 ⟨x,List.mem_filter.2 ⟨Array.mem_toList_iff.2 I,hb⟩,rfl⟩
theorem CQ {listed:Array Bool} {i:Nat} (hi:i < listed.size) (j:Nat):lb (listed.setIfInBounds i true) j=if j=i then true else lb listed j:=by
 unfold lb
 rw [Array.getD_eq_getD_getElem?,Array.getD_eq_getD_getElem?]
 by_cases h:j=i
 ·subst h
  rw [if_pos rfl,Array.getElem?_setIfInBounds_self_of_lt hi]
  rfl
 ·rw [if_neg h,Array.getElem?_setIfInBounds_ne (Ne.symm h)]
theorem SL {listed:Array Bool} (Z:listed.size=ops.size) (O:su ops (lb listed)) {i:Nat} {o:Oper} (M:ops[i]? =some o) (U:∀ e ∈ gL o,lb listed e=true):su ops (lb (listed.setIfInBounds i true)):=by
 have hi:i < listed.size:=by rw [Z];exact (Array.getElem?_eq_some_iff.1 M).1
 intro d ab G hb e J
 rw [CQ hi] at hb ⊢
 by_cases h:e=i
 ·rw [if_pos h]
 ·rw [if_neg h]
  by_cases I:d=i
  ·subst I
   rw [M] at G
   cases G
   exact U e J
  ·rw [if_neg I] at hb
   exact O d ab G hb e J
def left (n:Nat) (b:Nat→Bool):Nat:=((List.range n).filter fun j=> !b j).length
theorem Xy {n i:Nat} {b G:Nat→Bool} (hi:i < n) (hb:b i=false) (I:∀ j,G j=if j=i then true else b j):left n b=left n G+1:=by
 unfold left
 induction n with
 | zero=>omega
 | succ n U=>
  rw [List.range_succ,List.filter_append,List.filter_append,List.length_append,List.length_append]
  by_cases M:i=n
  ·subst M
   have e1:(List.range i).filter (fun j=> !b j)=(List.range i).filter (fun j=> !G j):=by
    apply List.filter_congr
    intro j O
    rw [I j,if_neg (by have:=List.mem_range.1 O;omega)]
   rw [e1]
   simp [hb,I i]
  ·have:=U (by omega)
   have J:G n=b n:=by rw [I n,if_neg (by omega)]
   simp only [List.filter_cons,List.filter_nil,J]
   omega
end
noncomputable def ia (T:List AV) (ops:Array Oper) (j:Nat):Option Bool:=
 match (ops[j]?).bind (·.dst) with
 | some d=>match al T d with
  | .val (.bool b)=>some b
  | _=>none
 | none=>none
section
variable {R : Type} {P : Program} {B0 : Nat → Prop} {w0 : World} {F : Fr} {ro : Option Nat} {ops : Array Oper}
theorem Li {T:List AV} {d:Nat} (h:T[d]? =none):al T d= .any:=by rw [ye,h];rfl
theorem yg {T:List AV} {d:Nat} {v:AV} (h:T[d]? =some v):al T d=v:=by rw [ye,h];rfl
theorem fix_eq {T:List AV} {d:Nat} {b:Bool} (h:al T d= .val (.bool b)):nK T d b=T:=by
 unfold nK
 rw [C2]
 rw [ye] at h
 apply List.ext_getElem?
 intro i
 by_cases hi:i=d
 ·subst hi
  cases G:T[i]? with
  | none=>rw [G] at h;cases h
  | some v=>
   rw [G] at h
   rw [List.getElem?_set_self (List.getElem?_eq_some_iff.1 G).1]
   exact congrArg some h.symm
 ·rw [List.getElem?_set_ne (Ne.symm hi)]
def wF (P:Program) (α:Nat→Nat×Nat) (B:Nat→Prop) (w:World) (D:Nat→Prop) (T:List AV) (G:Array Value) (d:Nat):Prop:=(T[d]? =none∧G[d]? =none)∨∃ v x,T[d]? =some v∧G[d]? =some x∧v.Rel P α B w D x
theorem PE {α:Nat→Nat×Nat} {B:Nat→Prop} {w:World} {D:Nat→Prop} {T:List AV} {O:Array Value} {j:Nat}
  (h:∀ d,(ops[j]?).bind (·.dst)=some d→wF P α B w D T O d) (Z:∀ d,(ops[j]?).bind (·.dst)=some d→∃ v,al T d= .val v):yielded ops O j=ia T ops j:=by
 unfold yielded ia
 cases M:(ops[j]?).bind (·.dst) with
 | none=>rfl
 | some d=>
  obtain ⟨v,I⟩:=Z d M
  rcases h d M with ⟨G,J⟩ | ⟨u,x,G,J,U⟩
  ·rw [Li G] at I;cases I
  ·rw [yg G] at I
   subst I
   rw [show x=v from U] at J
   simp only [Option.bind_some,J,yg G]
   cases v <;> rfl
theorem aj.slot {α:Nat→Nat×Nat} {B:Nat→Prop} {w:World} {D:Nat→Prop} {T:List AV} {J:Array Value} (h:aj P α B w T D J.toList) (d:Nat):wF P α B w D T J d:=by
 cases G:T[d]? with
 | none=>
  left
  have:=aj.len h
  rw [Array.length_toList] at this
  exact ⟨G,Array.getElem?_eq_none (by rw [this];exact List.getElem?_eq_none_iff.1 G)⟩
 | some v=>
  obtain ⟨x,I,M⟩:=aj.get h G
  rw [Array.getElem?_toList] at I
  exact .inr ⟨v,x,G,I,M⟩
theorem tF {α:Nat→Nat×Nat} {B:Nat→Prop} {w:World} {D:Nat→Prop} {T:List AV} {a:Act} (x:Operand) (h:∀ d,x= .tmp d→wF P α B w D T a.tmps d):(aB T x).Rel P α B w D (a.eval x):=by
 cases x with
 | tmp d=>
  show (al T d).Rel P α B w D (a.tmps.getD d undef)
  rcases h d rfl with ⟨G,I⟩ | ⟨v,y,G,I,J⟩
  ·rw [Li G];trivial
  ·rw [yg G,Array.getD_eq_getD_getElem?,I];exact J
 | const v=>exact toAV1_rel v
 | global g=>rfl
 | func f=>rfl
theorem yM (G:Option Tmp) (v:AV) (T:List AV):j3 G v T=(match G with | some d=>T.set d v | none=>T):=by
 cases G with
 | none=>rfl
 | some d=>exact C2 T d v
theorem N5 {D D':Nat→Prop} {α α':Nat→Nat×Nat} {h h':Hf} {T:List AV} {a:Act} {w w':World} (a7:w0.heap.size≤F.w.heap.size) (U:Marks F.w.heap.size w a.defers) (Z:Ok P B0 w0 D α h w) (ab:aj P α (Own B0 D α h) w T D a.tmps.toList) (O:bA F.D D F.α α F.C (aN D α h) F.w w)
  (J:Ok P B0 w0 D' α' h' w') (I:bA D D' α α' (aN D α h) (aN D' α' h') w w') (a1:∀ i,D' i→i < F.n→F.D i) (G:Option Tmp) {v:AV} {x:Value} (a6:v.Rel P α' (Own B0 D' α' h') w' D' x):cF P B0 w0 F (j3 G v T) h' (a.put G x) w':=by
 have aE:(a.put G x).defers=a.defers:=by cases G <;> rfl
 refine ⟨by rw [aE];exact U.mono Z J I,D',α',J, ?_,O.trans I,a1⟩
 have M:=aj.mono _ _ (I.keeps B0) ab
 rw [yM]
 cases G with
 | none=>exact M
 | some d=>
  show aj P α' (Own B0 D' α' h') w' (T.set d v) D' (a.tmps.setIfInBounds d x).toList
  rw [Array.toList_setIfInBounds]
  exact aj.set M d a6
theorem Pw {Q:Exit→Act→World→Prop} {i:Nat} {o:Oper} {K:Act→World→Prop} {a:Act} {w:World} (hi:ops[i]? =some o)
  (I:Region.wanted o (yielded ops a.tmps)=true→o.wpIn (W ro) 0 P a w K Q) (J:Region.wanted o (yielded ops a.tmps)=false→K (a.put o.dst undef) w):wpOpIn (W ro) 0 P ops Q i K a w:=by
 unfold wpOpIn
 simp only [hi]
 cases G:Region.wanted o (yielded ops a.tmps) with
 | true=>simp only [if_true];exact I G
 | false=>simp only [Bool.false_eq_true,if_false];exact ⟨fun _ _=>trivial,J G⟩
def wx (T:List AV) (ops:Array Oper) (o:Oper):Prop:=∀ j G,o.guard=some (j,G)→∀ d,(ops[j]?).bind (·.dst)=some d→∃ v,al T d= .val v
def One (P : Program) (ops : Array Oper) (J : Bool) (o : Oper) (T : List AV) (H : Hp) (lo : Nat) (v : AV) (G : Hp) (I : Tch × Nat × Nat) : Prop :=
  H.length ≤ G.length ∧ (lo ≤ H.length → ∀ m, m < lo → G[m]? = H[m]?) ∧ wx T ops o ∧
  ((Region.wanted o (ia T ops) = true ∧ I.2 = (H.length, G.length) ∧ (∀ B0 w0, ow P B0 w0 none T o (H[·]?) (H[·]?) H.length G.length v (G[·]?) true) ∧ (J = true → ∀ B0 w0, l8 P B0 w0 none T o H v G I.1)) ∨
   (Region.wanted o (ia T ops) = false ∧ v = .val undef ∧ G = H ∧ I = (.some false [], H.length, H.length)))
theorem Em {x:Cx R} (U:fk x) (b0:x.P=P) {G:Bool} {o:Oper} {T:List AV} {H:Hp} {a6:Tl} {aE:Lk R} {r:R} (h:tP x G o T H a6 aE=some r) (Z:wx T ops o) (ab:Region.wanted o (ia T ops)=true):∃ v J a1,aE (j3 o.dst v T) J (a1 :: a6)=some r∧One P ops G o T H x.lo v J a1:=by
 unfold tP at h
 have b4:fk (im x G o H):=by
  unfold im
  cases G&&jJ o.op <;> exact ⟨U.C,U.cf,U.yf⟩
 have b1:(im x G o H).P=P:=by
  unfold im
  cases G&&jJ o.op <;> exact b0
 have bD:(im x G o H).E=x.E:=by
  unfold im
  cases G&&jJ o.op <;> rfl
 obtain ⟨a7,bx⟩:=acv (ro:=none) b4 b1 h
 cases G with
 | false=>
  have M:(im x false o H).lo=x.lo:=rfl
  obtain ⟨v,J,k1,O,I⟩:=a7
  exact ⟨v,J,_,k1,(I (fun _=>False) default).1,by rw [M] at O;exact O,Z, .inl ⟨ab,rfl,fun B0 w0=>(I B0 w0).tv,fun h=>by cases h⟩⟩
 | true=>
  have b3:(im x true o H).lo=H.length∨jJ o.op=false:=by
   unfold im
   cases b5:jJ o.op with
   | true=>exact .inl rfl
   | false=>exact .inr rfl
  obtain ⟨v,J,k1,O,I⟩:=bx b3
  rw [bD] at I
  have b2:=(I (fun _=>False) default).1
  refine ⟨v,J,_,k1,b2,fun b6 m b7=> ?_,Z, .inl ⟨ab,rfl,fun B0 w0=>(I B0 w0).tv,fun _ B0 w0=>I B0 w0⟩⟩
  have M:(im x true o H).lo=x.lo∨(im x true o H).lo=H.length:=by
   unfold im
   cases jJ o.op with
   | true=>exact .inr rfl
   | false=>exact .inl rfl
  rcases M with M | M
  ·exact O (by omega) m (by omega)
  ·exact O (by omega) m (by omega)
theorem Cp {x:Cx R} (b1:fk x) (bD:x.P=P) {b0:Bool} {o:Oper} {T:List AV} {H:Hp} {a6:Tl} {a1:Lk R} {r:R} (h:CN x ops b0 o T H a6 a1=some r):∃ v O Z,a1 (j3 o.dst v T) O (Z :: a6)=some r∧One P ops b0 o T H x.lo v O Z:=by
 unfold CN at h
 have skip:∀ {bx:List AV},bx=T→Region.wanted o (ia T ops)=false→wx T ops o→x4 o bx H a6 a1=some r→∃ v O Z,a1 (j3 o.dst v T) O (Z :: a6)=some r∧One P ops b0 o T H x.lo v O Z:=by
  rintro bx rfl I G h
  exact ⟨_,H,_,h,Nat.le_refl _,fun _ _ _=>rfl,G, .inr ⟨I,rfl,rfl,rfl⟩⟩
 split at h
 ·rename_i U
  exact Em (ops:=ops) b1 bD h (fun j a7 e=>by rw [U] at e;cases e) (by rw [Region.wanted,U])
 ·rename_i b4 U
  obtain ⟨j,a7⟩:=b4
  have I:Region.wanted o (ia T ops)=(ia T ops j==some a7):=by rw [Region.wanted,U]
  split at h
  ·rename_i d J
   unfold KX at h
   split at h
   ·rename_i v aE
    have G:wx T ops o:=by
     intro b6 b7 e b5 b2
     rw [U] at e
     cases e
     simp only at J
     rw [J] at b2
     cases b2
     exact ⟨v,aE⟩
    split at h
    ·rename_i b
     have M:ia T ops j=some b:=by unfold ia;simp only at J;rw [J];simp only [aE]
     have ab:nK T d b=T:=fix_eq aE
     cases b with
     | true=>
      cases a7 with
      | true=>
       simp only [cond] at h
       rw [ab] at h
       exact Em (ops:=ops) b1 bD h G (by rw [I,M];rfl)
      | false=>exact skip ab (by rw [I,M];rfl) G h
     | false=>
      cases a7 with
      | true=>exact skip ab (by rw [I,M];rfl) G h
      | false=>
       simp only [cond] at h
       rw [ab] at h
       exact Em (ops:=ops) b1 bD h G (by rw [I,M];rfl)
    ·rename_i b3
     have M:ia T ops j=none:=by
      unfold ia
      simp only at J
      rw [J]
      simp only [aE]
      split
      ·rename_i e;cases e;exact absurd rfl (b3 _)
      ·rfl
     exact skip rfl (by rw [I,M];rfl) G h
   ·cases h
  ·cases h
end
end Go.V
namespace Go.V
open Go Go.RowKit
section
variable {R : Type} {P : Program} {B0 : Nat → Prop} {w0 : World} {F : Fr} {ro : Option Nat} {ops : Array Oper}
theorem Wu {D:Nat→Prop} {α:Nat→Nat×Nat} {w:World} {H:Hp} {M:Nat} (I:Ok P B0 w0 D α (H[·]?) w):HR D (H[·]?) (H[·]?) H.length M true:=
 ⟨fun i hi _ G=>by obtain ⟨k,J⟩:=I.lt i G;have:=(List.getElem?_eq_some_iff.1 J).1;omega,fun _ _ _=>rfl⟩
theorem Mc {M:Bool} {i:Nat} {o:Oper} {T:List AV} {H:Hp} {lo:Nat} {v:AV} {U:Hp} {b6:Tch×Nat×Nat} (hi:ops[i]? =some o) (h:One P ops M o T H lo v U b6) (a7:w0.heap.size≤F.w.heap.size) (ch:F.n≤H.length) {a:Act} {w:World} (b3:cF P B0 w0 F T (H[·]?) a w) {K:Act→World→Prop} {Q:Exit→Act→World→Prop}
  (aE:∀ Z w',cF P B0 w0 F (j3 o.dst v T) (U[·]?) Z w'→K Z w'):wpOpIn (W ro) 0 P ops Q i K a w:=by
 obtain ⟨a1,D,α,G,J,ab,a6⟩:=b3
 obtain ⟨_,_,b1,h⟩:=h
 have bx:Region.wanted o (yielded ops a.tmps)=Region.wanted o (ia T ops):=by
  unfold Region.wanted
  cases O:o.guard with
  | none=>rfl
  | some b5=>obtain ⟨j,b7⟩:=b5;simp only [PE (fun d _=>aj.slot J d) (fun d M=>b1 j b7 O d M)]
 refine Pw hi (fun I=> ?_) (fun I=> ?_)
 ·rcases h with ⟨_,_,h,_⟩ | ⟨h,_⟩
  ·refine h B0 w0 ro D α a w _ _ G (Wu G) (fun x _=>tF x (fun d _=>aj.slot J d)) ?_
   intro D' α' w' x b0 bD O b4
   exact aE _ _ (N5 a7 a1 G J ab b0 O (fun i hi b2=>(bD i hi).elim (fun h=>a6 i h b2) (fun h=>by omega)) o.dst b4)
  ·rw [bx,h] at I;cases I
 ·rcases h with ⟨h,_⟩ | ⟨_,rfl,rfl,_⟩
  ·rw [bx,h] at I;cases I
  ·exact aE _ _ (N5 a7 a1 G J ab G (bA.refl _ _ _ _) a6 o.dst rfl)
theorem Kj {x:Cx R} (b1:fk x) (a1:x.P=P):∀ (l:List (Bool×Oper)) (M:List Nat) (T:List AV) (H:Hp) (Z:Tl) (k:Lk R) (r:R),l.length=M.length→(∀ (j i:Nat) (o:Bool×Oper),M[j]? =some i→l[j]? =some o→ops[i]? =some o.2)→lq x ops l T H Z k=some r→
  ∃ O G ex,k O G (ex ++ Z)=some r∧H.length≤G.length∧(x.lo≤H.length→∀ m,m < x.lo→G[m]? =H[m]?)∧∀ (ro:Option Nat) (B0:Nat→Prop) (w0:World) (F:Fr) (Q:Exit→Act→World→Prop),w0.heap.size≤F.w.heap.size→F.n≤H.length→∀ a w,cF P B0 w0 F T (H[·]?) a w→(∀ U w',cF P B0 w0 F O (G[·]?) U w'→Q .normal U w')→wpOpsIn (W ro) 0 P ops Q M a w
 | [], [],T,H,Z,k,r,_,_,h=> ⟨T,H, [],h,Nat.le_refl _,fun _ _ _=>rfl,fun ro B0 w0 F Q _ _ a w aE ab=>ab a w aE⟩
 | [],_ :: _,_,_,_,_,_,J,_,_=>by simp at J
 | _ :: _, [],_,_,_,_,_,J,_,_=>by simp at J
 | o :: l,i :: M,T,H,Z,k,r,J,a7,h=>by
  unfold lq at h
  obtain ⟨v,c4,c3,b5,I⟩:=Cp b1 a1 h
  have hi:ops[i]? =some o.2:=a7 0 i o rfl rfl
  obtain ⟨O,G,ex,e1,b2,b3,b4⟩:=Kj b1 a1 l M _ _ _ k r (by simpa using J) (fun j ct c0 b6 b7=>a7 (j+1) ct c0 (by simpa using b6) (by simpa using b7)) b5
  refine ⟨O,G,ex ++ [c3],by rw [List.append_assoc];exact e1,Nat.le_trans I.1 b2,fun bx m bD=>(b3 (Nat.le_trans bx I.1) m bD).trans (I.2.1 bx m bD),fun ro B0 w0 F Q b0 a6 a w aE ab=> ?_⟩
  rw [wpOpsIn_cons]
  exact Mc hi I b0 a6 aE (fun U w' ch=>b4 ro B0 w0 F Q b0 (Nat.le_trans a6 I.1) U w' ch ab)
structure ic (P:Program) (ops:Array Oper) (m:Nat) (Ts:Nat→List AV) (Hs:Nat→Hp) (tcs:Nat→Tch×Nat×Nat):Prop where
 step:∀ i,i < m→∃ o v,ops[i]? =some o∧Ts (i+1)=j3 o.dst v (Ts i)∧∃ lo,One P ops true o (Ts i) (Hs i) lo v (Hs (i+1)) (tcs i)
theorem NX {x:Cx R} (ab:fk x) (O:x.P=P) (u:List (Bool×Oper)):∀ (l:List (Bool×Oper)) (s:Nat) (T:List AV) (H:Hp) (G:Tl) (k:Lk R) (r:R),(∀ (j:Nat) (o:Bool×Oper),l[j]? =some o→ops[s+j]? =some o.2∧o.1=true)→lq x ops (l ++ u) T H G k=some r→
  ∃ (Ts:Nat→List AV) (Hs:Nat→Hp) (tcs:Nat→Tch×Nat×Nat),Ts s=T∧Hs s=H∧(∀ i,s≤i→i < s+l.length→∃ o v,ops[i]? =some o∧Ts (i+1)=j3 o.dst v (Ts i)∧One P ops true o (Ts i) (Hs i) x.lo v (Hs (i+1)) (tcs i))∧
   lq x ops u (Ts (s+l.length)) (Hs (s+l.length)) (((List.range' s l.length).map tcs).reverse ++ G) k=some r
 | [],s,T,H,G,k,r,_,h=> ⟨fun _=>T,fun _=>H,fun _=>(.all,0,0),rfl,rfl,fun i M I=>by simp at I;omega,by simpa using h⟩
 | o :: l,s,T,H,G,k,r,U,h=>by
  rw [List.cons_append] at h
  unfold lq at h
  obtain ⟨hi,b1⟩:=U 0 o rfl
  rw [b1] at h
  obtain ⟨v,b3,J,M,I⟩:=Cp ab O h
  obtain ⟨Ts,Hs,tcs,e1,aE,a1,a6⟩:=NX ab O u l (s+1) _ _ _ k r (fun j b2 b0=>by have:=U (j+1) b2 (by simpa using b0);rwa [show s+(j+1)=s+1+j by omega] at this) M
  refine ⟨fun i=>if i=s then T else Ts i,fun i=>if i=s then H else Hs i,fun i=>if i=s then J else tcs i,if_pos rfl,if_pos rfl,fun i b4 bD=> ?_, ?_⟩
  ·rw [List.length_cons] at bD
   by_cases Z:i=s
   ·subst Z
    simp only [if_true,show ¬ i+1=i by omega,if_false]
    exact ⟨o.2,v,hi,e1,by rw [aE];exact I⟩
   ·simp only [Z,if_false,show ¬ i+1=s by omega]
    exact a1 i (by omega) (by omega)
  ·have a7:s+(o :: l).length=s+1+l.length:=by rw [List.length_cons];omega
   rw [a7]
   simp only [show ¬ s+1+l.length=s by omega,if_false]
   have bx:((List.range' s (o :: l).length).map fun i=>if i=s then J else tcs i).reverse ++ G=((List.range' (s+1) l.length).map tcs).reverse ++ (J :: G):=by
    rw [List.length_cons,List.range'_succ,List.map_cons,List.reverse_cons,List.append_assoc]
    simp only [if_true,List.singleton_append]
    congr 2
    apply List.map_congr_left
    intro i hi
    rw [if_neg]
    have:=List.mem_range'_1.1 hi
    omega
   rw [bx]
   exact a6
variable {m : Nat} {Ts : Nat → List AV} {Hs : Nat → Hp} {tcs : Nat → Tch × Nat × Nat} {c : Nat → List Nat}
def ik (ops:Array Oper) (j:Nat):Option Tmp:=(ops[j]?).bind (·.dst)
theorem aaa {G:Option Tmp} {v:AV} {T:List AV} {t:Nat} (h:G≠some t):(j3 G v T)[t]? =T[t]? :=by
 rw [yM]
 cases G with
 | none=>rfl
 | some d=>exact List.getElem?_set_ne (fun e=>h (by rw [e]))
theorem aab (G:Option Tmp) (v:AV) (T:List AV):(j3 G v T).length=T.length:=by
 rw [yM]
 cases G with
 | none=>rfl
 | some d=>exact List.length_set
theorem ic.len (h:ic P ops m Ts Hs tcs):∀ i,i≤m→(Ts i).length=(Ts 0).length:=by
 intro i
 induction i with
 | zero=>intro _;rfl
 | succ i G=>
  intro hi
  obtain ⟨o,v,_,e,_⟩:=h.step i (by omega)
  rw [e,aab,G (by omega)]
theorem ic.yX (h:ic P ops m Ts Hs tcs) {t i:Nat} :∀ G,i≤G→G≤m→(∀ j,i≤j→j < G→ik ops j≠some t)→(Ts G)[t]? =(Ts i)[t]? :=by
 intro G
 induction G with
 | zero=>intro M O I;rw [show i=0 by omega]
 | succ G aE=>
  intro M O I
  by_cases hi:i=G+1
  ·rw [hi]
  ·obtain ⟨o,v,ab,e,_⟩:=h.step G (by omega)
   have J:=I G (by omega) (by omega)
   unfold ik at J
   rw [ab] at J
   have Z:o.dst≠some t:=J
   rw [e,aaa Z]
   exact aE (by omega) (by omega) (fun j U a1=>I j U (by omega))
theorem ic.mono (h:ic P ops m Ts Hs tcs) {i:Nat} :∀ G,i≤G→G≤m→(Hs i).length≤(Hs G).length:=by
 intro G
 induction G with
 | zero=>intro I J;rw [show i=0 by omega];exact Nat.le_refl _
 | succ G O=>
  intro I J
  by_cases hi:i=G+1
  ·rw [hi];exact Nat.le_refl _
  ·obtain ⟨o,v,_,_,lo,M⟩:=h.step G (by omega)
   exact Nat.le_trans (O (by omega) (by omega)) M.1
def Wr (Hs:Nat→Hp) (tcs:Nat→Tch×Nat×Nat) (j n:Nat):Prop:=(n,true) ∈ (tcs j).1.ls∨((Hs j).length≤n∧n < (Hs (j+1)).length)
structure qh (m:Nat) (c:Nat→List Nat) (Hs:Nat→Hp) (tcs:Nat→Tch×Nat×Nat):Prop where
 some:∀ i,i < m→(tcs i).1.isSome=true
 ids:∀ i,i < m→(tcs i).2=((Hs i).length,(Hs (i+1)).length)
 Nf:∀ i j,i < j→j < m→i ∉ c j→(tcs i).1.rd=true→(∀ n,(n,true) ∉ (tcs j).1.ls)∧(Hs (j+1)).length≤(Hs j).length
 rd2:∀ i j,i < j→j < m→i ∉ c j→(tcs j).1.rd=true→∀ n,(n,true) ∉ (tcs i).1.ls
 both:∀ i j,i < j→j < m→i ∉ c j→∀ n a b,(n,a) ∈ (tcs i).1.ls→(n,b) ∈ (tcs j).1.ls→a=false∧b=false
 low:∀ j,j < m→∀ n b,(n,b) ∈ (tcs j).1.ls→n < (Hs j).length
 new:∀ i j,i < j→j < m→i ∉ c j→∀ n b,(n,b) ∈ (tcs j).1.ls→¬ ((Hs i).length≤n∧n < (Hs (i+1)).length)
theorem LM {l:List (Nat×Bool)} (h:C6 l=true) (n:Nat):(n,true) ∉ l:=by
 intro G
 have:=List.all_eq_true.1 h _ G
 simp at this
theorem QZ {b1:Tl} (M:∀ i,i < cw ops→b1.reverse[i]? =some (tcs i)) (a1:∀ i,i < cw ops→(tcs i).2=((Hs i).length,(Hs (i+1)).length)) (h:GA ops b1=true):qh (cw ops) (fun d=>(mf ops.toList).getD d []) Hs tcs:=by
 unfold GA at h
 rw [List.all_eq_true] at h
 have b6:∀ i j,i < j→j < cw ops→i ∉ (mf ops.toList).getD j []→Bt (tcs i) (tcs j)=true:=by
  intro i j O I U
  have J:=h j (List.mem_range.2 I)
  rw [Bool.and_eq_true] at J
  have G:=List.all_eq_true.1 J.2 i (List.mem_range.2 O)
  rw [M i (by omega),M j I,Bool.or_eq_true,List.contains_iff_mem] at G
  exact G.resolve_left U
 have some:∀ i,i < cw ops→(tcs i).1.isSome=true:=by
  intro i hi
  have J:=h i (List.mem_range.2 hi)
  rw [Bool.and_eq_true,M i hi,Bool.and_eq_true] at J
  exact J.1.1
 have low:∀ j,j < cw ops→∀ n b,(n,b) ∈ (tcs j).1.ls→n < (Hs j).length:=by
  intro j I n b bx
  have J:=h j (List.mem_range.2 I)
  rw [Bool.and_eq_true,M j I,Bool.and_eq_true] at J
  have G:=of_decide_eq_true (List.all_eq_true.1 J.1.2 _ bx)
  rw [a1 j I] at G
  exact G
 have a6:∀ i j,i < j→j < cw ops→i ∉ (mf ops.toList).getD j []→apart (tcs i).1 (tcs j).1=true∧((tcs i).1.rd=false∨(tcs j).2.2≤(tcs j).2.1)∧∀ y ∈ (tcs j).1.ls,¬ ((tcs i).2.1≤y.1∧y.1 < (tcs i).2.2):=by
  intro i j O I U
  have:=b6 i j O I U
  unfold Bt at this
  simp only [Bool.and_eq_true,Bool.or_eq_true,Bool.not_eq_true',List.all_eq_true,decide_eq_true_eq] at this
  refine ⟨this.1.1,this.1.2,fun y bD aE=> ?_⟩
  have Z:=this.2 y bD
  rw [Bool.and_eq_false_iff] at Z
  rcases Z with Z | Z
  ·exact absurd aE.1 (of_decide_eq_false Z)
  ·exact absurd aE.2 (of_decide_eq_false Z)
 have a7:∀ {x y:Tch},apart x y=true→x.isSome=true→y.isSome=true→(x.rd=true→∀ n,(n,true) ∉ y.ls)∧(y.rd=true→∀ n,(n,true) ∉ x.ls)∧∀ n a b,(n,a) ∈ x.ls→(n,b) ∈ y.ls→a=false∧b=false:=by
  intro x y ab b5 bD
  cases x with
  | all=>cases b5
  | some a l=>
   cases y with
   | all=>cases bD
   | some b m=>
    unfold apart at ab
    split at ab
    ·rename_i e
     cases e
     exact ⟨fun h=>(by cases h),fun _ n h=>(by simp [Tch.ls] at h),fun n a b h=>(by simp [Tch.ls] at h)⟩
    ·rename_i e _
     cases e
     exact ⟨fun _ n h=>(by simp [Tch.ls] at h),fun h=>(by cases h),fun n a b _ h=>(by simp [Tch.ls] at h)⟩
    ·rename_i e1 b2
     cases e1
     cases b2
     simp only [Bool.and_eq_true,Bool.or_eq_true,Bool.not_eq_true'] at ab
     obtain ⟨⟨J,G⟩,Z⟩:=ab
     refine ⟨fun M n=> ?_,fun M n=> ?_,fun n p q b3 b4=> ?_⟩
     ·rcases J with J | J
      ·rw [show a=true from M] at J;cases J
      ·exact LM J n
     ·rcases G with G | G
      ·rw [show b=true from M] at G;cases G
      ·exact LM G n
     ·have b0:=List.all_eq_true.1 (List.all_eq_true.1 Z _ b3) _ b4
      simp at b0
      exact b0
    ·cases ab
 refine ⟨some,a1,fun i j O I U M=> ?_,fun i j O I U M=> ?_,fun i j O I U=> ?_,low,fun i j O I U n b bx aE=> ?_⟩
 ·obtain ⟨J,G,_⟩:=a6 i j O I U
  refine ⟨(a7 J (some i (by omega)) (some j I)).1 M, ?_⟩
  rcases G with G | G
  ·rw [M] at G;cases G
  ·rw [a1 j I] at G;exact G
 ·exact (a7 (a6 i j O I U).1 (some i (by omega)) (some j I)).2.1 M
 ·exact (a7 (a6 i j O I U).1 (some i (by omega)) (some j I)).2.2
 ·have:=(a6 i j O I U).2.2 _ bx
  rw [a1 i (by omega)] at this
  exact this aE
end
end Go.V
namespace Go.V
open Go Go.RowKit
section
variable {R : Type} {P : Program} {B0 : Nat → Prop} {w0 : World} {F : Fr} {ro : Option Nat} {ops : Array Oper} {m : Nat} {c : Nat → List Nat} {Ts : Nat → List AV} {Hs : Nat → Hp} {tcs : Nat → Tch × Nat × Nat}
open Classical in
noncomputable def cV (Hs:Nat→Hp) (tcs:Nat→Tch×Nat×Nat) (b:Nat→Bool):Nat→Hf
 | 0=>fun n=>(Hs 0)[n]?
 | j+1=>fun n=>if b j=true∧Wr Hs tcs j n then (Hs (j+1))[n]? else cV Hs tcs b j n
theorem Zl (h:ic P ops m Ts Hs tcs) (ha:qh m c Hs tcs) {j:Nat} (M:j < m) {n:Nat} (O:¬ Wr Hs tcs j n):(Hs (j+1))[n]? =(Hs j)[n]? :=by
 obtain ⟨o,v,_,_,lo,Z⟩:=h.step j M
 obtain ⟨a6,_,_,ab⟩:=Z
 by_cases aE:n < (Hs j).length
 ·rcases ab with ⟨_,_,_,I⟩ | ⟨_,_,I,_⟩
  ·have G:=I rfl (fun _=>False) default
   unfold l8 at G
   obtain ⟨_,G⟩:=G
   have U:=ha.some j M
   cases J:(tcs j).1 with
   | all=>rw [J] at U;cases U
   | some rd l=>
    rw [J] at G
    exact G.1 n aE (fun a1=>O (.inl (by rw [J];exact a1)))
  ·rw [I]
 ·have:¬ n < (Hs (j+1)).length:=fun h=>O (.inr ⟨by omega,h⟩)
  rw [List.getElem?_eq_none (by omega),List.getElem?_eq_none (by omega)]
theorem xW (h:ic P ops m Ts Hs tcs) (ha:qh m c Hs tcs) {b:Nat→Bool} {n i:Nat} (hi:i≤m) (Z:∀ j,j < i→Wr Hs tcs j n→b j=true) (ab:∀ j,i≤j→j < m→Wr Hs tcs j n→b j=false):cV Hs tcs b m n=(Hs i)[n]? :=by
 have e1:∀ G,G≤i→cV Hs tcs b G n=(Hs G)[n]? :=by
  intro G
  induction G with
  | zero=>intro _;rfl
  | succ G M=>
   intro a6
   unfold cV
   by_cases J:Wr Hs tcs G n
   ·rw [if_pos ⟨Z G (by omega) J,J⟩]
   ·rw [if_neg (fun I=>J I.2),M (by omega),Zl h ha (by omega) J]
 have U:∀ G,i≤G→G≤m→cV Hs tcs b G n=(Hs i)[n]? :=by
  intro G
  induction G with
  | zero=>intro aE _;rw [show i=0 by omega];rfl
  | succ G M=>
   intro aE a1
   by_cases O:i=G+1
   ·rw [O];exact O ▸ e1 i (Nat.le_refl _)
   ·unfold cV
    rw [if_neg (fun I=>by rw [ab G (by omega) (by omega) I.2] at I;cases I.1)]
    exact M (by omega) (by omega)
 exact U m hi (Nat.le_refl _)
theorem xX {b J:Nat→Bool} {i:Nat} (hb:∀ j,j≠i→J j=b j) {n:Nat} (G:¬ Wr Hs tcs i n):∀ j,cV Hs tcs J j n=cV Hs tcs b j n
 | 0=>rfl
 | j+1=>by
  unfold cV
  by_cases M:j=i
  ·subst M
   rw [if_neg (fun I=>G I.2),if_neg (fun I=>G I.2)]
   exact xX hb G j
  ·rw [hb j M,xX hb G j]
def oy (P:Program) (B0:Nat→Prop) (w0:World) (F:Fr) (ops:Array Oper) (m:Nat) (Ts:Nat→List AV) (Hs:Nat→Hp) (tcs:Nat→Tch×Nat×Nat) (b:Nat→Bool) (a:Act) (w:World):Prop:=
 Marks F.w.heap.size w a.defers∧∃ D α,Ok P B0 w0 D α (cV Hs tcs b m) w∧(∀ n,D n→n < (Hs 0).length∨∃ j,j < m∧b j=true∧(Hs j).length≤n∧n < (Hs (j+1)).length)∧a.tmps.size=(Ts 0).length∧
  (∀ t,t < (Ts 0).length→∃ x v,a.tmps[t]? =some x∧v.Rel P α (Own B0 D α (cV Hs tcs b m)) w D x∧((∃ j,j < m∧b j=true∧ik ops j=some t∧(Ts m)[t]? =some v)∨((∀ j,j < m→b j=true→ik ops j≠some t)∧(Ts 0)[t]? =some v)))∧
  bA F.D D F.α α F.C (aN D α (cV Hs tcs b m)) F.w w∧∀ i,D i→i < F.n→F.D i
theorem KT {b:Nat→Bool} (hb:∀ j,b j=false):∀ j,cV Hs tcs b j=((Hs 0)[·]?)
 | 0=>rfl
 | j+1=>by
  funext n
  unfold cV
  rw [if_neg (fun G=>by rw [hb j] at G;cases G.1),KT hb j]
theorem Y1 {a:Act} {w:World} (a6:cF P B0 w0 F (Ts 0) ((Hs 0)[·]?) a w) {b:Nat→Bool} (hb:∀ j,b j=false):oy P B0 w0 F ops m Ts Hs tcs b a w:=by
 obtain ⟨Z,D,α,I,J,U,ab⟩:=a6
 unfold oy
 rw [KT hb m]
 refine ⟨Z,D,α,I,fun n a1=> .inl (by obtain ⟨k,aE⟩:=I.lt n a1;exact (List.getElem?_eq_some_iff.1 aE).1), ?_,fun t M=> ?_,U,ab⟩
 ·have:=aj.len J
  rwa [Array.length_toList] at this
 ·obtain ⟨x,G,O⟩:=aj.get J (List.getElem?_eq_getElem M)
  rw [Array.getElem?_toList] at G
  exact ⟨x,_,G,O, .inr ⟨fun j _ h=>absurd ((hb j).symm.trans h) (by decide),List.getElem?_eq_getElem M⟩⟩
theorem Y0 (M:Order ops m c) (ab:ic P ops m Ts Hs tcs) {D:Nat→Prop} {α:Nat→Nat×Nat} {B:Nat→Prop} {b:Nat→Bool} {a:Act} {w:World} (dy:a.tmps.size=(Ts 0).length)
  (b1:∀ t,t < (Ts 0).length→∃ x v,a.tmps[t]? =some x∧v.Rel P α B w D x∧((∃ j,j < m∧b j=true∧ik ops j=some t∧(Ts m)[t]? =some v)∨((∀ j,j < m→b j=true→ik ops j≠some t)∧(Ts 0)[t]? =some v)))
  {i:Nat} (hi:i < m) {o:Oper} (ct:ops[i]? =some o) (c5:∀ j ∈ c i,b j=true) (b4:∀ j,j < m→b j=true→i ∉ c j) (d:Nat) (b3:d ∈ o.looksAt ops):wF P α B w D (Ts i) a.tmps d:=by
 obtain ⟨o1,U,b5⟩:=M.head i hi
 rw [ct] at U
 cases U
 have a7:∀ j,j < m→ik ops j=some d→j ∈ c i∨i ∈ c j:=by
  intro j O I
  obtain ⟨ea,c0,_,Z⟩:=b5 j O
  refine Z d ?_ b3
  unfold ik at I
  rw [c0] at I
  exact I
 have b6:i < ops.size:=Nat.lt_of_lt_of_le hi M.le
 by_cases c4:d < (Ts 0).length
 ·obtain ⟨x,v,bx,Z,bD⟩:=b1 d c4
  right
  refine ⟨v,x, ?_,bx,Z⟩
  rcases bD with ⟨j,O,b2,I,aE⟩ | ⟨b7,aE⟩
  ·have dx:=M.lt i b6 j ((a7 j O I).resolve_right (b4 j O b2))
   rw [← ab.yX m (by omega) (Nat.le_refl _) (i:=i) (t:=d) ?_]
   ·exact aE
   ·intro c6 c7 a1 J
    obtain ⟨o1,U,ch⟩:=M.head j O
    obtain ⟨o2,c3,G,_⟩:=ch c6 a1
    unfold ik at J I
    rw [U] at I
    rw [c3] at J
    have a6:o1.dst=some d:=I
    have b0:o2.dst=some d:=J
    rcases G with G | G | G
    ·omega
    ·rw [a6] at G;cases G
    ·exact G (a6.trans b0.symm)
  ·rw [ab.yX i (Nat.zero_le _) (by omega) (i:=0) (t:=d) ?_]
   ·exact aE
   ·intro j _ a1 J
    rcases a7 j (by omega) J with G | G
    ·exact b7 j (by omega) (c5 j G) J
    ·have:=M.lt j (by omega) i G
     omega
 ·left
  exact ⟨List.getElem?_eq_none (by rw [ab.len i (by omega)];omega),Array.getElem?_eq_none (by omega)⟩
theorem Y2 (hK:w0.heap.size≤F.w.heap.size) (hB:F.n≤(Hs 0).length) (e6:Order ops m c) (M:ic P ops m Ts Hs tcs) (ha:qh m c Hs tcs) {b bx:Nat→Bool} {a:Act} {w:World} (hn:oy P B0 w0 F ops m Ts Hs tcs b a w) {i:Nat} (hi:i < m) (eN:∀ j ∈ c i,b j=true) (dx:b i=false) (dy:∀ j,j < m→b j=true→i ∉ c j)
  (c7:∀ j,bx j=if j=i then true else b j) {Q:Exit→Act→World→Prop} {K:Act→World→Prop} (hd:∀ a w,oy P B0 w0 F ops m Ts Hs tcs bx a w→K a w):wpOpIn (W ro) 0 P ops Q i K a w:=by
 obtain ⟨hf,D,α,ek,c4,ez,e4,gn,hg⟩:=hn
 obtain ⟨o,v,eb,e,lo,ec⟩:=M.step i hi
 obtain ⟨hF,hE,hj,ec⟩:=ec
 have fa:=fun d a7=>Y0 e6 M ez e4 hi eb eN dy d a7
 have hv:∀ x ∈ o.op.operands,(aB (Ts i) x).Rel P α (Own B0 D α (cV Hs tcs b m)) w D (a.eval x):=by
  intro x hx
  refine tF x (fun d a7=>fa d ?_)
  subst a7
  unfold Oper.looksAt
  exact List.mem_append_left _ (List.mem_filterMap.2 ⟨.tmp d,Array.mem_toList_iff.2 hx,rfl⟩)
 have gf:Region.wanted o (yielded ops a.tmps)=Region.wanted o (ia (Ts i) ops):=by
  unfold Region.wanted
  cases b2:o.guard with
  | none=>rfl
  | some hy=>
   obtain ⟨j,hA⟩:=hy
   simp only
   rw [PE (fun d a7=>fa d ?_) (fun d a7=>hj j hA b2 d a7)]
   unfold Oper.looksAt
   rw [b2]
   refine List.mem_append_right _ ?_
   simp only [a7,Option.toList,List.mem_singleton]
 have e7:ik ops i=o.dst:=by unfold ik;rw [eb];rfl
 have ht:∀ t,o.dst=some t→∀ j,j < m→j≠i→ik ops j≠some t:=by
  intro t c0 j J Z et
  obtain ⟨o1,fc,ho⟩:=e6.head i hi
  rw [eb] at fc
  cases fc
  obtain ⟨o2,hs,a6,_⟩:=ho j J
  unfold ik at et
  rw [hs] at et
  have hh:o2.dst=some t:=et
  rcases a6 with a6 | a6 | a6
  ·exact Z a6.symm
  ·rw [c0] at a6;cases a6
  ·exact a6 (c0.trans hh.symm)
 have keep:∀ j,b j=true→bx j=true:=fun j h=>by rw [c7 j];by_cases J:j=i <;> simp [J,h]
 have eo:∀ j,j≠i→bx j=b j:=fun j J=>by rw [c7 j,if_neg J]
 have eg:∀ n j,Wr Hs tcs j n→((∃ a,(n,a) ∈ (tcs i).1.ls)∧n < (Hs i).length∨Wr Hs tcs i n)→j < m→j≠i→(j < i→b j=true)∧(i < j→b j=false):=by
  intro n j G fv J Z
  constructor
  ·intro aE
   cases O:b j with
   | true=>rfl
   | false=>
    have bD:j ∉ c i:=fun ep=>by rw [eN j ep] at O;cases O
    exfalso
    rcases fv with ⟨⟨a,ea⟩,hq⟩ | U
    ·rcases G with G | G
     ·have:=ha.both j i aE hi bD n true a G ea;cases this.1
     ·exact ha.new j i aE hi bD n a ea G
    ·rcases U with U | U
     ·rcases G with G | G
      ·have:=ha.both j i aE hi bD n true true G U;cases this.1
      ·exact ha.new j i aE hi bD n true U G
     ·rcases G with G | G
      ·-- j touches a block that i makes:j's touches lie below
       have I:=M.mono i (show j+1≤i by omega) (by omega)
       have b3:=M.mono (j+1) (show j≤j+1 by omega) (by omega)
       obtain ⟨hM,hN,hI,_,hL,hJ⟩:=M.step j J
       exact absurd (ha.low j J n true G) (by omega)
      ·have I:=M.mono i (show j+1≤i by omega) (by omega)
       omega
  ·intro aE
   cases O:b j with
   | false=>rfl
   | true=>
    have bD:=dy j J O
    exfalso
    rcases fv with ⟨⟨a,ea⟩,hq⟩ | U
    ·rcases G with G | G
     ·have:=ha.both i j aE J bD n a true ea G;cases this.2
     ·have I:=M.mono j (show i≤j by omega) (by omega);omega
    ·rcases U with U | U
     ·rcases G with G | G
      ·have:=ha.both i j aE J bD n true true U G;cases this.1
      ·have I:=M.mono j (show i≤j by omega) (by omega)
       have:=ha.low i hi n true U
       omega
     ·rcases G with G | G
      ·exact ha.new i j aE J bD n true G U
      ·have I:=M.mono j (show i+1≤j by omega) (by omega);omega
 have en:bx i=true:=by rw [c7 i,if_pos rfl]
 have hz:∀ n,D n→(Hs i).length≤n→n < (Hs (i+1)).length→False:=by
  intro n a1 I b3
  rcases c4 n a1 with b0 | ⟨j,J,O,b0,b1⟩
  ·have:=M.mono i (Nat.zero_le i) (by omega);omega
  ·have Z:j≠i:=fun h=>by rw [h,dx] at O;cases O
   rcases Nat.lt_or_gt_of_ne Z with ab | ab
   ·have:=M.mono i (show j+1≤i by omega) (by omega);omega
   ·have:=M.mono j (show i+1≤j by omega) (by omega);omega
 have e3:∀ (D':Nat→Prop) (α':Nat→Nat×Nat) (w':World) (x:Value),Ok P B0 w0 D' α' (cV Hs tcs bx m) w'→(∀ n,D' n→D n∨((Hs i).length≤n∧n < (Hs (i+1)).length))→bA D D' α α' (aN D α (cV Hs tcs b m)) (aN D' α' (cV Hs tcs bx m)) w w'→v.Rel P α' (Own B0 D' α' (cV Hs tcs bx m)) w' D' x→
   K (a.put o.dst x) w':=by
  intro D' α' w' x c6 c5 b2 e2
  have a7:(a.put o.dst x).defers=a.defers:=by cases o.dst <;> rfl
  have hG:=M.mono i (Nat.zero_le i) (by omega)
  refine hd _ _ ⟨by rw [a7];exact hf.mono ek c6 b2,D',α',c6, ?_, ?_, ?_,gn.trans b2,fun n a1 aE=>(c5 n a1).elim (fun h=>hg n h aE) (fun h=>by omega)⟩
  ·intro n a1
   rcases c5 n a1 with I | I
   ·rcases c4 n I with b3 | ⟨j,b3,b0,b1⟩
    ·exact .inl b3
    ·exact .inr ⟨j,b3,keep j b0,b1⟩
   ·exact .inr ⟨i,hi,en,I⟩
  ·cases a7:o.dst with
   | none=>exact ez
   | some d=>show (a.tmps.setIfInBounds d x).size=_;rw [Array.size_setIfInBounds];exact ez
  ·intro t c0
   by_cases b6:o.dst=some t
   ·refine ⟨x,v, ?_,e2, .inl ⟨i,hi,en,e7.trans b6, ?_⟩⟩
    ·rw [b6]
     show (a.tmps.setIfInBounds t x)[t]? =some x
     rw [Array.getElem?_setIfInBounds_self_of_lt (by omega)]
    ·rw [M.yX m (by omega) (Nat.le_refl _) (i:=i+1) (t:=t) (fun j b1 ab=>ht t b6 j ab (by omega)),e,yM,b6]
     exact List.getElem?_set_self (by rw [M.len i (by omega)];exact c0)
   ·obtain ⟨y,u,I,b3,b0⟩:=e4 t c0
    refine ⟨y,u, ?_,AV.Rel.mono _ _ (b2.keeps B0) b3, ?_⟩
    ·cases a7:o.dst with
     | none=>exact I
     | some d=>
      show (a.tmps.setIfInBounds d x)[t]? =some y
      rw [Array.getElem?_setIfInBounds_ne (fun h=>b6 (by rw [a7,h]))]
      exact I
    ·rcases b0 with ⟨j,b1,ab,eh⟩ | ⟨b1,ab⟩
     ·exact .inl ⟨j,b1,keep j ab,eh⟩
     ·refine .inr ⟨fun j eh a6=> ?_,ab⟩
      rw [c7 j] at a6
      split at a6
      ·rename_i Z;rw [Z,e7];exact b6
      ·exact b1 j eh a6
 refine Pw eb (fun b5=> ?_) (fun b5=> ?_)
 ·rw [gf] at b5
  rcases ec with ⟨_,b4,_,I⟩ | ⟨I,_⟩
  ·have I:=I rfl B0 w0
   have fs:=ha.some i hi
   cases b4:(tcs i).1 with
   | all=>rw [b4] at fs;cases fs
   | some rd l=>
    have eu:(tcs i).1.ls=l:=by rw [b4];rfl
    have ev:(tcs i).1.rd=rd:=by rw [b4];rfl
    rw [b4] at I
    obtain ⟨_,_,I⟩:=I
    have ch:cA (cV Hs tcs b m) (Hs i) (Hs (i+1)) l=cV Hs tcs bx m:=by
     funext n
     unfold cA
     by_cases U:Wr Hs tcs i n
     ·rw [if_pos (by rw [← eu];exact U)]
      refine (xW M ha (show i+1≤m by omega) (fun j J G=> ?_) (fun j J b7 G=> ?_)).symm
      ·by_cases Z:j=i
       ·rw [Z];exact en
       ·exact keep j ((eg n j G (.inr U) (by omega) Z).1 (by omega))
      ·rw [eo j (by omega)]
       exact (eg n j G (.inr U) b7 (by omega)).2 (by omega)
     ·rw [if_neg (by rw [← eu];exact U)]
      exact (xX eo U m).symm
    refine I (cV Hs tcs b m) (fun n a1 aE=> ?_) ro D α a w _ _ ek ⟨fun n a1 ct c3=> ?_,fun fh n c3=> ?_⟩ hv (fun D' α' w' x c6 c5 b2 e2=>e3 D' α' w' x (ch ▸ c6) c5 (ch ▸ b2) (ch ▸ e2))
    ·rw [← eu] at a1
     refine xW M ha (Nat.le_of_lt hi) (fun j J G=>(eg n j G (.inl ⟨a1,aE⟩) (by omega) (by omega)).1 J) (fun j J b7 G=> ?_)
     by_cases Z:j=i
     ·rw [Z];exact dx
     ·exact (eg n j G (.inl ⟨a1,aE⟩) b7 Z).2 (by omega)
    ·rcases ct with ct | ct
     ·exact hz n c3 a1 ct
     ·rcases c4 n c3 with b0 | ⟨j,J,O,b0,b1⟩
      ·have:=M.mono i (Nat.zero_le i) (by omega);omega
      ·have Z:j≠i:=fun h=>by rw [h,dx] at O;cases O
       rcases Nat.lt_or_gt_of_ne Z with ab | ab
       ·have:=M.mono i (show j+1≤i by omega) (by omega);omega
       ·have:=(ha.Nf i j ab J (dy j J O) (by rw [ev];exact ct)).2;omega
    ·refine xW M ha (Nat.le_of_lt hi) (fun j J G=> ?_) (fun j J b7 G=> ?_)
     ·cases O:b j with
      | true=>rfl
      | false=>
       have bD:j ∉ c i:=fun ep=>by rw [eN j ep] at O;cases O
       exfalso
       rcases G with G | G
       ·exact ha.rd2 j i J hi bD (by rw [ev];exact fh) n G
       ·rcases c4 n c3 with b0 | ⟨ed,hD,e5,b0,b1⟩
        ·have:=M.mono j (Nat.zero_le j) (by omega);omega
        ·have hl:ed≠j:=fun h=>by rw [h,O] at e5;cases e5
         rcases Nat.lt_or_gt_of_ne hl with ab | ab
         ·have:=M.mono j (show ed+1≤j by omega) (by omega);omega
         ·have:=M.mono ed (show j+1≤ed by omega) (by omega);omega
     ·cases O:b j with
      | false=>rfl
      | true=>
       exfalso
       have Z:j≠i:=fun h=>by rw [h,dx] at O;cases O
       have ab:=ha.Nf i j (by omega) b7 (dy j b7 O) (by rw [ev];exact fh)
       rcases G with G | G
       ·exact ab.1 n G
       ·omega
  ·rw [I] at b5;cases b5
 ·rw [gf] at b5
  rcases ec with ⟨I,_⟩ | ⟨_,rfl,hc,b4⟩
  ·rw [I] at b5;cases b5
  ·have hr:∀ n,¬ Wr Hs tcs i n:=by
    rintro n (I | I)
    ·rw [b4] at I;simp [Tch.ls] at I
    ·rw [hc] at I;omega
   have ch:cV Hs tcs b m=cV Hs tcs bx m:=by funext n;exact (xX eo (hr n) m).symm
   refine e3 D α w undef (ch ▸ ek) (fun n a1=> .inl a1) (ch ▸ bA.refl _ _ _ _) rfl
theorem YY {b:Nat→Bool} {a:Act} {w:World} (I:ic P ops m Ts Hs tcs) (ha:qh m c Hs tcs) (b0:oy P B0 w0 F ops m Ts Hs tcs b a w) (hb:∀ j,j < m→b j=true):cF P B0 w0 F (Ts m) ((Hs m)[·]?) a w:=by
 obtain ⟨bx,D,α,aE,b3,b1,a1,ab,bD⟩:=b0
 have a7:cV Hs tcs b m=((Hs m)[·]?):=by
  funext n
  exact xW I ha (Nat.le_refl m) (fun j J _=>hb j J) (fun j M O=>by omega)
 rw [a7] at aE a1 ab
 refine ⟨bx,D,α,aE, ?_,ab,bD⟩
 refine aj.nO (by rw [Array.length_toList,b1,I.len m (Nat.le_refl _)]) (fun t v U=> ?_)
 have b2:t < (Ts 0).length:=by rw [← I.len m (Nat.le_refl _)];exact (List.getElem?_eq_some_iff.1 U).1
 obtain ⟨x,u,M,O,a6⟩:=a1 t b2
 rw [Array.getElem?_toList]
 rcases a6 with ⟨j,_,_,_,G⟩ | ⟨G,Z⟩
 ·rw [U] at G;cases G;exact ⟨x,M,O⟩
 ·rw [← I.yX m (Nat.zero_le _) (Nat.le_refl _) (i:=0) (fun j _ J=>G j J (hb j J)),U] at Z
  cases Z
  exact ⟨x,M,O⟩
end
end Go.V
namespace Go.V
open Go Go.RowKit
section
variable {R : Type} {P : Program} {ro : Option Nat} {ops : Array Oper} {m : Nat} {c : Nat → List Nat}
theorem Mn {x:Cx R} (dx:fk x) (c0:x.P=P) (U:Order ops m c):∀ (l:List (Bool×Oper)) (d:Nat) (T:List AV) (H:Hp) (bx:Tl) (k:Lk R) (r:R),d+l.length=ops.size→m≤d→(∀ (j:Nat) (o:Bool×Oper),l[j]? =some o→ops[d+j]? =some o.2)→lq x ops l T H bx k=some r→
  ∃ aE M ex,k aE M (ex ++ bx)=some r∧H.length≤M.length∧(x.lo≤H.length→∀ q,q < x.lo→M[q]? =H[q]?)∧∀ (ro:Option Nat) (B0:Nat→Prop) (w0:World) (F:Fr) (Q:Exit→Act→World→Prop),w0.heap.size≤F.w.heap.size→F.n≤H.length→(∀ a1 w',cF P B0 w0 F aE (M[·]?) a1 w'→Q .normal a1 w')→
   ∀ (listed:Array Bool) a w,listed.size=ops.size→(∀ j,j < ops.size→lb listed j=decide (j < d))→cF P B0 w0 F T (H[·]?) a w→wpAnyIn (W ro) 0 P .any ops Q l.length listed a w
 | [],d,T,H,bx,k,r,b1,ek,b3,h=> ⟨T,H, [],h,Nat.le_refl _,fun _ _ _=>rfl,fun ro B0 w0 F Q _ _ b0 listed a w ab G b7=>by
   refine ⟨?_,b0 a w b7⟩
   cases b6:Region.ready .any ops listed with
   | nil=>rfl
   | cons i l=>
    obtain ⟨o,J,I,_⟩:=(vp ab i).1 (by rw [b6];exact List.mem_cons_self)
    have hi:=(Array.getElem?_eq_some_iff.1 J).1
    rw [G i hi,decide_eq_false_iff_not] at I
    simp at b1
    omega⟩
 | o :: l,d,T,H,bx,k,r,b1,ek,b3,h=>by
  unfold lq at h
  obtain ⟨v,ez,ev,I,O⟩:=Cp dx c0 h
  have en:ops[d]? =some o.2:=b3 0 o rfl
  rw [List.length_cons] at b1
  obtain ⟨aE,M,ex,e1,dy,ea,eb⟩:=Mn dx c0 U l (d+1) _ _ _ k r (by omega) (by omega) (fun j ch bD=>by have:=b3 (j+1) ch (by simpa using bD);rwa [show d+(j+1)=d+1+j by omega] at this) I
  refine ⟨aE,M,ex ++ [ev],by rw [List.append_assoc];exact e1,Nat.le_trans O.1 dy,fun c5 q c6=>(ea (Nat.le_trans c5 O.1) q c6).trans (O.2.1 c5 q c6),fun ro B0 w0 F Q c7 c4 b0 listed a w ab G b7=> ?_⟩
  have b2:d < ops.size:=by omega
  obtain ⟨eu,eo,c3,_⟩:=U.tB d b2
  have eg:su ops (lb listed):=by
   intro j o J hb e a6
   have a7:=(Array.getElem?_eq_some_iff.1 J).1
   obtain ⟨ch,Z,I,_⟩:=U.tB j a7
   rw [J] at Z
   cases Z
   have:=I e a6
   rw [G j a7,decide_eq_true_eq] at hb
   rw [G e (by omega),decide_eq_true_eq]
   omega
  have ep:d ∈ Region.ready .any ops listed:=(vp ab d).2 ⟨eu,eo,by rw [G d b2];simp,fun e a6=>(G e (by have:=c3 e a6;omega)).trans (decide_eq_true (c3 e a6))⟩
  refine ⟨fun b6=>absurd (b6 ▸ ep) List.not_mem_nil,fun i hi=> ?_⟩
  obtain ⟨o2,J,I,ec⟩:=(vp ab i).1 hi
  have b4:=(Array.getElem?_eq_some_iff.1 J).1
  have eh:i=d:=by
   rw [G i b4,decide_eq_false_iff_not] at I
   rcases Nat.lt_or_ge d i with ct | ct
   ·have bD:=U.tail i b4 (by omega) d ct
    have ed:=U.up eg i b4 (fun ch Z=>by rw [J] at Z;cases Z;exact ec) d bD
    rw [G d b2,decide_eq_true_eq] at ed
    omega
   ·omega
  subst eh
  refine Mc en O c7 c4 b7 (fun a1 w' et=>eb ro B0 w0 F Q c7 (Nat.le_trans c4 O.1) b0 _ a1 w' (by rw [Array.size_setIfInBounds];exact ab) (fun j a7=> ?_) et)
  rw [CQ (by omega),G j a7]
  by_cases b5:j=i
  ·rw [if_pos b5];simp [b5]
  ·rw [if_neg b5];simp only [decide_eq_decide];omega
theorem Xx {n:Nat} {b:Nat→Bool} {k:Nat} (h:left n b=k+1):∃ i,i < n∧b i=false∧∀ j,j < i→b j=true:=by
 have U:∃ i,i < n∧b i=false:=by
  unfold left at h
  cases M:(List.range n).filter (fun j=> !b j) with
  | nil=>rw [M] at h;cases h
  | cons x r=>
   have J:x ∈ (List.range n).filter fun j=> !b j:=by rw [M];exact List.mem_cons_self
   rw [List.mem_filter,List.mem_range] at J
   exact ⟨x,J.1,by simpa using J.2⟩
 have ab:∀ k,(∃ i,i≤k∧i < n∧b i=false)→∃ i,i < n∧b i=false∧∀ j,j < i→b j=true:=by
  intro k
  induction k with
  | zero=>
   rintro ⟨i,hi,G,I⟩
   exact ⟨i,G,I,fun j Z=>by omega⟩
  | succ k aE=>
   rintro ⟨i,hi,G,I⟩
   by_cases O:∃ j,j≤k∧j < n∧b j=false
   ·exact aE O
   ·refine ⟨i,G,I,fun j Z=> ?_⟩
    cases hb:b j with
    | true=>rfl
    | false=>exact absurd ⟨j,by omega,by omega,hb⟩ O
 obtain ⟨i,G,I⟩:=U
 exact ab i ⟨i,Nat.le_refl _,G,I⟩
theorem Xz {n:Nat} {b:Nat→Bool} (h:left n b=0):∀ j,j < n→b j=true:=by
 intro j G
 cases hb:b j with
 | true=>rfl
 | false=>
  have:j ∈ (List.range n).filter fun j=> !b j:=List.mem_filter.2 ⟨List.mem_range.2 G,by simp [hb]⟩
  unfold left at h
  rw [List.eq_nil_of_length_eq_zero h] at this
  cases this
variable {B0 : Nat → Prop} {w0 : World} {F : Fr} {Ts : Nat → List AV} {Hs : Nat → Hp} {tcs : Nat → Tch × Nat × Nat}
theorem ZO (I:Order ops m c) (eb:w0.heap.size≤F.w.heap.size) (c4:F.n≤(Hs 0).length) {Q:Exit→Act→World→Prop} (b3:ic P ops m Ts Hs tcs) (ha:qh m c Hs tcs)
  (ea:∀ (listed:Array Bool) a w,listed.size=ops.size→(∀ j,j < ops.size→lb listed j=decide (j < m))→cF P B0 w0 F (Ts m) ((Hs m)[·]?) a w→wpAnyIn (W ro) 0 P .any ops Q (ops.size - m) listed a w):
  ∀ (G:Nat) (listed:Array Bool) (a:Act) (w:World),left m (lb listed)=G→listed.size=ops.size→su ops (lb listed)→(∀ d,m≤d→lb listed d=false)→oy P B0 w0 F ops m Ts Hs tcs (lb listed) a w→wpAnyIn (W ro) 0 P .any ops Q (G+(ops.size - m)) listed a w:=by
 intro G
 have eg:=I.le
 induction G with
 | zero=>
  intro listed a w aE J M a7 a6
  have b1:=Xz aE
  rw [Nat.zero_add]
  refine ea listed a w J (fun j c5=> ?_) (YY b3 ha a6 b1)
  by_cases h:j < m
  ·rw [b1 j h];simp [h]
  ·rw [a7 j (by omega)];simp [h]
 | succ G ec=>
  intro listed a w aE J M a7 a6
  obtain ⟨U,ed,b2,c6⟩:=Xx aE
  rw [show G+1+(ops.size - m)=(G+(ops.size - m))+1 by omega]
  refine ⟨fun dy=> ?_,fun i hi=> ?_⟩
  ·exfalso
   obtain ⟨o,O,a1,_⟩:=I.tB U (by omega)
   have:U ∈ Region.ready .any ops listed:=(vp J U).2 ⟨o,O,b2,fun e h=>c6 e (a1 e h)⟩
   rw [dy] at this
   cases this
  ·obtain ⟨o,O,ab,bD⟩:=(vp J i).1 hi
   have b5:=(Array.getElem?_eq_some_iff.1 O).1
   have b6:=I.up M i b5 (fun b7 Z=>by rw [O] at Z;cases Z;exact bD)
   have b4:i < m:=by
    rcases Nat.lt_or_ge i m with h | h
    ·exact h
    ·have b0:=b6 U (I.tail i b5 h U (by omega))
     rw [b2] at b0
     cases b0
   have bx:=CQ (listed:=listed) (i:=i) (by omega)
   have c3:∀ j,j < m→lb listed j=true→i ∉ c j:=by
    intro j c5 ct c7
    have:=I.up M j (by omega) (fun b7 Z e a1=>M j b7 Z ct e a1) i c7
    rw [ab] at this
    cases this
   refine Y2 eb c4 I b3 ha a6 b4 b6 ab c3 bx (fun ch w' dx=> ?_)
   refine ec _ ch w' ?_ (by rw [Array.size_setIfInBounds];exact J) (SL J M O bD) (fun d c0=> ?_) dx
   ·have:=Xy b4 ab bx
    omega
   ·rw [bx d,if_neg (by omega)]
    exact a7 d c0
theorem abI {T:List AV} {h:Hf} {a:Act} {w:World} (ab:cF P B0 w0 F T h a w):cF P B0 w0 F T h a w.drew:=by
 obtain ⟨O,D,α,I,Z,M,U⟩:=ab
 have hb:bm w.heap.size w w.drew:=bm.drew (bm.refl _ _)
 obtain ⟨J,G⟩:=nS I hb
 exact ⟨O.mono I J G,D,α,J,aj.mono _ _ (G.keeps B0) Z,M.trans G,U⟩
theorem Wk {x:Cx R} (ct:fk x) (b2:x.P=P) (ep:P.follows .mixedOrders=true) {b0:Bool} {T:List AV} {H:Hp} {k:Cn R} {r:R} (h:DW x ops b0 T H k=some r):
  ∃ J I,k .normal J I=some r∧H.length≤I.length∧(x.lo≤H.length→∀ q,q < x.lo→I[q]? =H[q]?)∧∀ (ro:Option Nat) (B0:Nat→Prop) (w0:World) (F:Fr) (Q:Exit→Act→World→Prop) (id:Nat),w0.heap.size≤F.w.heap.size→F.n≤H.length→(∀ c4 w',cF P B0 w0 F J (I[·]?) c4 w'→Q .normal c4 w')→
   ∀ a w,cF P B0 w0 F T (H[·]?) a w→(Code.region id ops b0).wpIn (W ro) 0 P Q a w:=by
 unfold DW at h
 cases b0 with
 | false=>
  simp only [cond] at h
  obtain ⟨J,I,ex,O,U,b1,eb⟩:=Kj ct b2 (ops.toList.map fun o=>(false,o)) (List.range ops.size) T H [] _ r (by simp) (fun j i o a1 G=>by
   rw [List.getElem?_map,Option.map_eq_some_iff] at G
   obtain ⟨eN,bx,rfl⟩:=G
   have eh:=List.getElem?_eq_some_iff.1 a1
   obtain ⟨e2,c7⟩:=eh
   rw [List.getElem_range] at c7
   subst c7
   rwa [Array.getElem?_toList] at bx) h
  exact ⟨J,I,O,U,b1,fun ro B0 w0 F Q id bD aE b3 a w ch=>wpIn_region (eb ro B0 w0 F Q bD aE a w ch b3)⟩
 | true=>
  simp only [Bool.cond_eq_ite,if_true] at h
  split at h
  ·rename_i ec
   have b4:=ZD ec
   have e3:=b4.le
   have ed:jr ops=(jr ops).take (cw ops) ++ (jr ops).drop (cw ops):=(List.take_append_drop _ _).symm
   have b6:(jr ops).length=ops.size:=by unfold jr;rw [List.length_map,List.length_zipIdx,Array.length_toList]
   have c6:∀ (j:Nat) (o:Bool×Oper),(jr ops)[j]? =some o→ops[j]? =some o.2∧o.1=decide (j < cw ops):=by
    intro j o G
    unfold jr at G
    rw [List.getElem?_map,Option.map_eq_some_iff] at G
    obtain ⟨p,dy,rfl⟩:=G
    rw [List.getElem?_zipIdx,Option.map_eq_some_iff] at dy
    obtain ⟨eN,bx,rfl⟩:=dy
    rw [Array.getElem?_toList] at bx
    exact ⟨bx,by simp⟩
   rw [ed] at h
   obtain ⟨Ts,Hs,tcs,e1,M,ab,c5⟩:=NX ct b2 ((jr ops).drop (cw ops)) ((jr ops).take (cw ops)) 0 T H [] _ r (fun j o G=>by
    have a1:j < cw ops:=by
     have:=(List.getElem?_eq_some_iff.1 G).1
     rw [List.length_take] at this
     omega
    rw [List.getElem?_take_of_lt a1] at G
    obtain ⟨O,U⟩:=c6 j o G
    rw [Nat.zero_add]
    exact ⟨O,by rw [U];simpa using a1⟩) h
   have dx:((jr ops).take (cw ops)).length=cw ops:=by rw [List.length_take,b6];omega
   rw [dx,Nat.zero_add] at c5
   simp only [dx,Nat.zero_add] at ab
   have b5:ic P ops (cw ops) Ts Hs tcs:= ⟨fun i hi=>by
    obtain ⟨o,v,k1,c0,c3⟩:=ab i (Nat.zero_le _) hi
    exact ⟨o,v,k1,c0,x.lo,c3⟩⟩
   obtain ⟨J,I,ex,k1,c0,c3,ev⟩:=Mn ct b2 b4 ((jr ops).drop (cw ops)) (cw ops) _ _ _ _ r (by rw [List.length_drop,b6];omega) (Nat.le_refl _) (fun j o G=>by
    rw [List.getElem?_drop] at G
    exact (c6 _ o G).1) c5
   split at k1
   ·rename_i et
    have eg:∀ i,i < cw ops→(tcs i).2=((Hs i).length,(Hs (i+1)).length):=by
     intro i hi
     obtain ⟨o,v,_,_,_,_,_,k⟩:=ab i (Nat.zero_le _) hi
     rcases k with ⟨_,k,_⟩ | ⟨_,_,ez,k⟩
     ·exact k
     ·rw [k,ez]
    have ha:=QZ (Hs:=Hs) (tcs:=tcs) (fun i hi=>by
     rw [List.append_nil,List.reverse_append,List.reverse_reverse,List.getElem?_append_left (by simpa using hi),List.getElem?_map,List.getElem?_range' hi]
     simp) eg et
    have a7:=b5.mono (i:=0) (cw ops) (Nat.zero_le _) (Nat.le_refl _)
    have ek:x.lo≤H.length→∀ i,i≤cw ops→∀ q,q < x.lo→(Hs i)[q]? =H[q]? :=by
     intro b7 i
     induction i with
     | zero=>intro _ q _;rw [M]
     | succ i eu=>
      intro hi q Z
      obtain ⟨o,v,_,_,_,k,_⟩:=ab i (Nat.zero_le _) (by omega)
      refine (k ?_ q Z).trans (eu (by omega) q Z)
      have:=b5.mono (i:=0) i (Nat.zero_le _) (by omega)
      rw [M] at this
      omega
    rw [M] at a7
    refine ⟨J,I,k1,Nat.le_trans a7 c0,fun b7 q Z=>(c3 (Nat.le_trans b7 a7) q Z).trans (ek b7 _ (Nat.le_refl _) q Z),fun ro B0 w0 F Q id bD aE b3 a w ch=> ?_⟩
    have a6:∀ j,lb (Array.replicate ops.size false) j=false:=by
     intro j
     unfold lb
     rw [Array.getD_eq_getD_getElem?,Array.getElem?_replicate]
     split <;> rfl
    have ea:=abI ch
    rw [← e1,← M] at ea
    have eo:oy P B0 w0 F ops (cw ops) Ts Hs tcs (lb (Array.replicate ops.size false)) a w.drew:=Y1 ea a6
    refine wpIn_region_any ep ?_
    have en:left (cw ops) (lb (Array.replicate ops.size false))=cw ops:=by
     unfold left
     rw [List.filter_eq_self.2 (fun x _=>by rw [a6 x];rfl),List.length_range]
    have:=ZO b4 bD (by rw [M];exact aE) b5 ha (fun listed a w O U b1=>by
     have:=ev ro B0 w0 F Q bD (Nat.le_trans aE a7) b3 listed a w O U b1
     rwa [List.length_drop,b6] at this) (cw ops) (Array.replicate ops.size false) a w.drew en (by simp) (fun d o _ hb=>by rw [a6 d] at hb;cases hb) (fun d _=>a6 d) eo
    rwa [show cw ops+(ops.size - cw ops)=ops.size by omega] at this
   ·cases k1
  ·cases h
end
end Go.V
namespace Go.V
open Go Go.RowKit
section
variable {P : Program} {D D1 : Nat → Prop} {α α1 : Nat → Nat × Nat} {B B1 : Nat → Prop} {w : World} {ρ : Nat → Nat} {r : List Nat}
theorem Ng (ρ:Nat→Nat):∀ l:List AV,(ff ρ l).length=l.length
 | []=>rfl
 | v :: l=>by simp [ff,Ng ρ l]
theorem CH:∀ {r:List Nat} {i:Nat},i ∈ r→r[idx r i]? =some i
 | [],i,h=>by simp at h
 | j :: l,i,h=>by
  unfold idx
  cases G:(j==i) with
  | true=>rw [beq_iff_eq] at G;subst G;rfl
  | false=>
   have:j≠i:=by simpa using G
   simp only [cond]
   rw [List.getElem?_cons_succ]
   exact CH ((List.mem_cons.1 h).resolve_left (fun e=>this e.symm))
theorem LN:∀ {r:List Nat},yp r=true→∀ {i j k:Nat},r[i]? =some k→r[j]? =some k→i=j
 | [],_,i,j,k,h,_=>by simp at h
 | a :: l,I,i,j,k,hi,G=>by
  unfold yp at I
  rw [Bool.and_eq_true,Bool.not_eq_true',← Bool.not_eq_true,List.contains_iff_mem] at I
  cases i with
  | zero=>
   cases j with
   | zero=>rfl
   | succ j=>
    simp only [List.getElem?_cons_zero,Option.some.injEq] at hi
    rw [List.getElem?_cons_succ] at G
    subst hi
    exact absurd (List.mem_of_getElem? G) I.1
  | succ i=>
   cases j with
   | zero=>
    simp only [List.getElem?_cons_zero,Option.some.injEq] at G
    rw [List.getElem?_cons_succ] at hi
    subst G
    exact absurd (List.mem_of_getElem? hi) I.1
   | succ j=>
    rw [List.getElem?_cons_succ] at hi G
    rw [LN I.2 hi G]
theorem DZ (ρ:Nat→Nat) (b:bI):(yS ρ b).isLive=b.isLive∧(yS ρ b).iG=b.iG:=by
 cases b with
 | row c ty st=>cases st <;> exact ⟨rfl,rfl⟩
 | loop r=>exact ⟨rfl,rfl⟩
theorem xy (ρ:Nat→Nat) (c:an):(c.DY ρ).len=c.len:=by
 cases c with
 | cells l=>exact Ng ρ l
 | _=>rfl
theorem JJ (ab:∀ i ∈ r,D i→D1 (ρ i)∧α1 (ρ i)=α i) (Z:∀ b,B1 b→B b) (c:an) (G:List Value) (hi:∀ i ∈ c.ids,i ∈ r) (h:aj P α B w c.aW D G):aj P α1 B1 w (c.DY ρ).aW D1 G:=by
 have M:∀ (l:List AV),(∀ v ∈ l,∃ y,v= .val y)→∀ G,aj P α B w l D G→aj P α1 B1 w l D1 G:=by
  intro l
  induction l with
  | nil=>intro _ G h;exact h
  | cons v l aE=>
   intro J G h
   obtain ⟨y,zs,rfl,O,U⟩:=h
   obtain ⟨u,rfl⟩:=J v List.mem_cons_self
   exact ⟨y,zs,rfl,O,aE (fun v I=>J v (List.mem_cons_of_mem _ I)) zs U⟩
 cases c with
 | cells l=>exact mW ab Z l G hi h
 | ints k zs=>exact M _ (fun v I=>by obtain ⟨z,_,rfl⟩:=List.mem_map.1 I;exact ⟨_,rfl⟩) G h
 | vals vs=>exact M _ (fun v I=>by obtain ⟨z,_,rfl⟩:=List.mem_map.1 I;exact ⟨_,rfl⟩) G h
variable {B0 : Nat → Prop} {w0 : World} {F : Fr}
theorem ra {keep:List Nat} {T:List AV} {I:List Value} (h:aj P α B w T D I):aj P α B w (kL keep T) D I:=by
 unfold kL
 refine aj.nO (by rw [aj.len h,List.length_mapIdx]) (fun i v G=> ?_)
 rw [List.getElem?_mapIdx,Option.map_eq_some_iff] at G
 obtain ⟨u,O,rfl⟩:=G
 obtain ⟨y,J,M⟩:=aj.get h O
 refine ⟨y,J, ?_⟩
 cases keep.contains i with
 | true=>exact M
 | false=>trivial
theorem N4 {T:List AV} {H:Hp} (b4:qR r T H=true) (b7:∀ i,F.D i→r[i]? =some i) (ec:∀ i,i < F.n→r[i]? =some i) {a:Act} (h:Marks F.w.heap.size w a.defers∧∃ D α,Ok P B0 w0 D α (H[·]?) w∧aj P α (Own B0 D α (H[·]?)) w T D a.tmps.toList∧bA F.D D F.α α F.C (aN D α (H[·]?)) F.w w∧∀ i,D i→i < F.n→F.D i):cF P B0 w0 F (ff (idx r) T) ((gQ r H)[·]?) a w:=by
 obtain ⟨c6,D,α,a1,dx,b1,c7⟩:=h
 unfold qR at b4
 simp only [Bool.and_eq_true,List.all_eq_true,List.contains_iff_mem] at b4
 obtain ⟨⟨ed,dy⟩,c5⟩:=b4
 have ea:∀ i ∈ r,∃ b,H[i]? =some b∧∀ j ∈ b.ids,j ∈ r:=by
  intro i hi
  have:=c5 i hi
  split at this
  ·rename_i b hb
   exact ⟨b,hb,fun j b0=>List.contains_iff_mem.1 (List.all_eq_true.1 this j b0)⟩
  ·cases this
 let D1:Nat→Prop:=fun j=>∃ i,r[j]? =some i∧D i
 let α1:Nat→Nat×Nat:=fun j=>α ((r[j]?).getD 0)
 have ab:∀ {j i:Nat},r[j]? =some i→α1 j=α i:=by
  intro j i h
  show α ((r[j]?).getD 0)=α i
  rw [h]
  rfl
 have a7:∀ {j i:Nat},r[j]? =some i→∃ b,H[i]? =some b∧(∀ j ∈ b.ids,j ∈ r)∧(gQ r H)[j]? =some (yS (idx r) b):=by
  intro j i h
  obtain ⟨b,hb,G⟩:=ea i (List.mem_of_getElem? h)
  refine ⟨b,hb,G, ?_⟩
  unfold gQ
  rw [List.getElem?_map,h]
  simp [hb]
 have b3:∀ i ∈ r,D i→D1 (idx r i)∧α1 (idx r i)=α i:=fun i hi O=> ⟨⟨i,CH hi,O⟩,ab (CH hi)⟩
 have b5:∀ b,aN D1 α1 ((gQ r H)[·]?) b→aN D α (H[·]?) b:=by
  rintro b ⟨j,k, ⟨i,hi,O⟩,I,G,M⟩
  obtain ⟨ek,e1,_,aE⟩:=a7 hi
  have J:(gQ r H)[j]? =some k:=I
  rw [aE] at J
  cases J
  rw [(DZ _ _).1] at G
  rw [ab hi] at M
  exact ⟨i,ek,O,e1,G,M⟩
 have bD:∀ b,Own B0 D1 α1 ((gQ r H)[·]?) b→Own B0 D α (H[·]?) b:=fun b h=>h.elim .inl (fun h=> .inr (b5 b h))
 refine ⟨c6,D1,α1, ⟨?_,a1.below,a1.cN,fun b hb b2=>a1.sep b hb (b5 b b2), ?_, ?_, ?_, ?_⟩,mW b3 bD T _ (fun i hi=>dy i hi) dx, ⟨fun i hi=> ⟨i,b7 i hi,b1.le i hi⟩,fun i hi=>(ab (b7 i hi)).trans (b1.same i hi),fun b o I G=> ⟨fun h=>(b1.block b o I G).1 (b5 b h),(b1.block b o I G).2⟩⟩,fun i eb hi=>by
  obtain ⟨eo,I,G⟩:=eb
  rw [ec i hi] at I
  cases I
  exact c7 i G hi⟩
 ·rintro j ⟨i,hi,O⟩
  obtain ⟨b,_,_,e⟩:=a7 hi
  exact ⟨_,e⟩
 ·rintro j ⟨i,hi,O⟩
  rw [ab hi]
  exact a1.fresh i O
 ·rintro i j k l ⟨eg,hi,c3⟩ ⟨eh,b0,c4⟩ I G M U Z
  obtain ⟨a6,e1,_,aE⟩:=a7 hi
  obtain ⟨ch,bx,_,ct⟩:=a7 b0
  have J:(gQ r H)[i]? =some k:=I
  have b6:(gQ r H)[j]? =some l:=G
  rw [aE] at J
  rw [ct] at b6
  cases J
  cases b6
  rw [(DZ _ _).1] at M U
  rw [ab hi,ab b0] at Z
  have:=a1.inj eg eh a6 ch c3 c4 e1 bx M U Z
  subst this
  exact LN ed hi b0
 ·rintro j k ⟨i,hi,O⟩ I G b2
  obtain ⟨a6,e1,_,aE⟩:=a7 hi
  have J:(gQ r H)[j]? =some k:=I
  rw [aE] at J
  cases J
  rw [(DZ _ _).2] at G
  rw [ab hi] at b2
  exact a1.db i a6 O e1 G (bD _ b2)
 ·rintro j k ⟨i,hi,O⟩ I
  obtain ⟨a6,e1,bx,aE⟩:=a7 hi
  have J:(gQ r H)[j]? =some k:=I
  rw [aE] at J
  cases J
  rw [ab hi]
  have hb:=a1.cJ i a6 O e1
  cases a6 with
  | row c ty st=>
   cases st with
   | dead=>exact .inl rfl
   | live=>
    rcases hb with hb | ⟨cs,fr,I,G,M,U,Z⟩
    ·cases hb
    ·exact .inr ⟨cs,fr,I,G,M,by rw [xy];exact U,by rw [xy];exact JJ b3 bD c _ (fun i hi=>bx i hi) Z⟩
   | froz=>
    rcases hb with hb | ⟨cs,fr,I,G,M,U,Z⟩
    ·cases hb
    ·exact .inr ⟨cs,fr,I,G,M,by rw [xy];exact U,by rw [xy];exact JJ b3 bD c _ (fun i hi=>bx i hi) Z⟩
  | loop en=>
   obtain ⟨L,I,G,M,U,Z,c0⟩:=hb
   exact ⟨L,I,G,M,U,Z,mW b3 bD en.T _ (fun i hi=>bx i hi) c0⟩
theorem N3 {T:List AV} {H:Hp} (I:qR r T H=true) (G:∀ i,¬ F.D i) (J:F.n=0) {a:Act} (h:Marks F.w.heap.size w a.defers∧∃ D α,Ok P B0 w0 D α (H[·]?) w∧aj P α (Own B0 D α (H[·]?)) w T D a.tmps.toList∧bA F.D D F.α α F.C (aN D α (H[·]?)) F.w w∧∀ i,D i→i < F.n→F.D i):cF P B0 w0 F (ff (idx r) T) ((gQ r H)[·]?) a w:=
 N4 I (fun i hi=>absurd hi (G i)) (fun i hi=>by omega) h
theorem yk (keep:List Nat) (b:bI):(o9 keep b).isLive=b.isLive∧(o9 keep b).iG=b.iG:=by cases b <;> exact ⟨rfl,rfl⟩
theorem yl (keep:List Nat) (H:Hp) (i:Nat):(iI keep H)[i]? =(H[i]?).map (o9 keep):=List.getElem?_map
theorem YW (keep:List Nat) (H:Hp) (D:Nat→Prop) (α:Nat→Nat×Nat):aN D α ((iI keep H)[·]?)=aN D α (H[·]?):=by
 funext b
 refine propext ⟨?_, ?_⟩
 ·rintro ⟨i,k,J,G,I,M⟩
  have G:(iI keep H)[i]? =some k:=G
  rw [yl,Option.map_eq_some_iff] at G
  obtain ⟨O,U,rfl⟩:=G
  rw [(yk keep O).1] at I
  exact ⟨i,O,J,U,I,M⟩
 ·rintro ⟨i,k,J,G,I,M⟩
  have G:H[i]? =some k:=G
  exact ⟨i,o9 keep k,J,by show (iI keep H)[i]? =_;rw [yl,G];rfl,by rw [(yk keep k).1];exact I,M⟩
theorem abK {keep:List Nat} {T:List AV} {H:Hp} {a:Act} (h:cF P B0 w0 F T (H[·]?) a w):cF P B0 w0 F T ((iI keep H)[·]?) a w:=by
 obtain ⟨a7,D,α,I,bD,a6,bx⟩:=h
 have e1:=YW keep H D α
 have U:Own B0 D α ((iI keep H)[·]?)=Own B0 D α (H[·]?):=by unfold Own;rw [e1]
 have M:∀ {i:Nat} {k:bI},((iI keep H)[·]?) i=some k→∃ G,H[i]? =some G∧k=o9 keep G:=by
  intro i k h
  have h:(iI keep H)[i]? =some k:=h
  rw [yl,Option.map_eq_some_iff] at h
  obtain ⟨G,Z,rfl⟩:=h
  exact ⟨G,Z,rfl⟩
 refine ⟨a7,D,α, ⟨?_,I.below,I.cN,by rw [e1];exact I.sep,I.fresh, ?_, ?_, ?_⟩,by rw [U];exact bD,by rw [e1];exact a6,bx⟩
 ·intro i hi
  obtain ⟨k,ab⟩:=I.lt i hi
  have ab:H[i]? =some k:=ab
  exact ⟨o9 keep k,by show (iI keep H)[i]? =_;rw [yl,ab];rfl⟩
 ·intro i j k l hi b0 J O aE a1 Z
  obtain ⟨G,g1,rfl⟩:=M J
  obtain ⟨b1,g2,rfl⟩:=M O
  rw [(yk _ _).1] at aE a1
  exact I.inj i j G b1 hi b0 g1 g2 aE a1 Z
 ·intro i k hi J O
  obtain ⟨G,g1,rfl⟩:=M J
  rw [(yk _ _).2] at O
  rw [U]
  exact I.db i G hi g1 O
 ·intro i k hi J
  obtain ⟨G,g1,rfl⟩:=M J
  rw [U]
  have hb:=I.cJ i G hi g1
  cases G with
  | row c ty st=>exact hb
  | loop r=>
   obtain ⟨L,q1,q2,b2,b3,b4,b5⟩:=hb
   exact ⟨L,q1,q2,b2,b3,b4,ra b5⟩
theorem KA {fb:Nat} {r:List Nat} (h:Cw fb r=true):∀ i,i < fb→r[i]? =some i:=by
 intro i hi
 have:=List.all_eq_true.1 h i (List.mem_range.2 hi)
 split at this
 ·rename_i j G
  rw [beq_iff_eq] at this
  subst this
  exact G
 ·cases this
theorem abJ {fb:Nat} {keep:List Nat} {T:List AV} {H:Hp} (ab:qR r (kL keep T) (iI keep H)=true) (G:Cw fb r=true) (aE:F.n≤fb) (I:∀ i,F.D i→i < fb) {a:Act} (h:cF P B0 w0 F T (H[·]?) a w):cF P B0 w0 F (ff (idx r) (kL keep T)) ((gQ r (iI keep H))[·]?) a w:=by
 obtain ⟨M,D,α,U,Z,J,O⟩:=abK (keep:=keep) h
 exact N4 ab (fun i hi=>KA G i (I i hi)) (fun i hi=>KA G i (by omega)) ⟨M,D,α,U,ra Z,J,O⟩
end
section
variable {Fn : Fence} {n : Nat} {P : Program} {Q : Exit → Act → World → Prop} {a : Act} {w : World}
theorem rW {b:Frame} {k:List Item} {cs:List Frame} {c:Code} :step P (lone (b.atR a (.code (.scope c) :: k)) cs w)= .next (lone (b.atR a (.code c :: .inScope c :: k)) cs w):=
 step_lone_go (by simp [stepG,stepG.exec,Frame.atR])
theorem abZ {b:Frame} {k:List Item} {cs:List Frame} {c:Code} :step P (lone (b.atR a (.inScope c :: k)) cs w)= .next (lone (b.atR a k) cs w):=
 step_lone_go (by simp [stepG,stepG.exec,Frame.atR])
theorem aek {c:Code} (h:c.wpIn Fn n P (Exit.noGoto Q) a w):(Code.scope c).wpIn Fn n P Q a w:=by
 intro b k cs a7 hb Z
 have G:(lone (b.atR a (.code (.scope c) :: k)) cs w).fenced P Fn:=fenced_calm hb Z rfl
 obtain ⟨e,M,O,J,I⟩:=h b (.inScope c :: k) cs a7 hb Z
 have ab:∀ id,exitTo id (.inScope c :: k)=exitTo id k:=fun id=>by simp [exitTo]
 cases e with
 | normal=>exact ⟨.normal,M,O,J, .head G rW (StepsIn.trans I (.one (fenced_calm hb Z rfl) abZ))⟩
 | exit id=>
  exact ⟨.exit id,M,O,J,fun bx U=> .head G rW (I.1 bx (by rw [ab];exact U)),
   fun a6 U=>let ⟨bD,aE,a1⟩:=I.2 a6 (by rw [ab];exact U); ⟨bD,aE, .head G rW a1⟩⟩
 | goto l=>exact J.elim
 | ret=>exact ⟨_,M,O,J, .of_steps (.one G rW) I⟩
 | panic b0=>exact ⟨_,M,O,J, .of_steps (.one G rW) I⟩
 | outgrown=>exact ⟨_,M,O,J, .of_steps (.one G rW) I⟩
theorem least {p:Nat→Prop} :∀ n,p n→∃ n,p n∧∀ m,m < n→¬ p m:=by
 intro n
 induction n using Nat.strongRecOn with
 | _ n M=>
  intro J
  by_cases h:∃ m,m < n∧p m
  ·obtain ⟨m,G,I⟩:=h
   exact M m G I
  ·exact ⟨n,J,fun m G I=>h ⟨m,G,I⟩⟩
theorem aej {Z:Code} (G:Nat→Act→World→Prop) (a7:∀ I a w,G I a w→Z.wpIn Fn n P (Exit.then (fun U w'=>∃ m,m < I∧G m U w') Q) a w) {I:Nat} (h:G I a w):(Code.loop Z).wpIn Fn n P Q a w:=by
 classical
 let O:Act→World→Nat:=fun a w=>if h:∃ n,G n a w∧∀ m,m < n→¬ G m a w then h.choose else 0
 have a1:∀ n a w,G n a w→G (O a w) a w∧O a w≤n:=by
  intro n a w M
  have J:=least (p:=fun n=>G n a w) n M
  have e:O a w=J.choose:=dif_pos J
  rw [e]
  refine ⟨J.choose_spec.1, ?_⟩
  rcases Nat.lt_or_ge n J.choose with h | h
  ·exact absurd M (J.choose_spec.2 n h)
  ·exact h
 refine wpIn_loop (fun a w=>∃ n,G n a w) O ⟨I,h⟩ ?_
 rintro a w ⟨n,M⟩
 refine wpIn_mono (a7 _ a w (a1 n a w M).1) ?_
 intro e U w' aE
 cases e with
 | normal=>
  obtain ⟨I,a6,ab⟩:=aE
  exact ⟨⟨I,ab⟩,Nat.lt_of_le_of_lt (a1 I U w' ab).2 a6⟩
 | _=>exact aE
end
section
variable {R : Type} {P : Program}
structure Ends (P:Program) (rd:Bool) (fb lo:Nat) (c:Code) (T:List AV) (H:Hp) (e:Ex) (T':List AV) (H':Hp):Prop where
 len:fb≤H'.length
 keep:∀ q,q < lo→H'[q]? =H[q]?
 wp:∀ ro:Option Nat,(rd=false→ro=none)→∀ (B0:Nat→Prop) (w0:World) (F:Fr) (Q:Exit→Act→World→Prop),w0.heap.size≤F.w.heap.size→F.n≤fb→(∀ i,F.D i→i < fb)→(∀ a' w',cF P B0 w0 F T' (H'[·]?) a' w'→Q e.to a' w')→
  ∀ a w,cF P B0 w0 F T (H[·]?) a w→c.wpIn (W ro) 0 P Q a w
inductive kF (P:Program) (rd:Bool) (fb lo:Nat) (c:Code) (e:Ex) (T':List AV) (H':Hp):Nat→List AV→Hp→Prop
 | last {T H} :Ends P rd fb lo c T H e T' H'→e≠ .normal→kF P rd fb lo c e T' H' 0 T H
 | more {n T H T1 H1} :Ends P rd fb lo c T H .normal T1 H1→kF P rd fb lo c e T' H' n T1 H1→kF P rd fb lo c e T' H' (n+1) T H
theorem kF.len {rd:Bool} {fb lo:Nat} {c:Code} {e:Ex} {M:List AV} {G:Hp} {n:Nat} {T:List AV} {H:Hp} (h:kF P rd fb lo c e M G n T H):fb≤G.length∧∀ q,q < lo→G[q]? =H[q]? :=by
 induction h with
 | last h _=>exact ⟨h.len,h.keep⟩
 | more h _ J=>exact ⟨J.1,fun q I=>(J.2 q I).trans (h.keep q I)⟩
theorem kF.ends {rd:Bool} {fb lo:Nat} {c:Code} {e:Ex} {J:List AV} {I:Hp} {n:Nat} {T:List AV} {H:Hp} (h:kF P rd fb lo c e J I n T H):Ends P rd fb lo (.loop c) T H e J I:=by
 refine ⟨h.len.1,h.len.2,fun ro ab B0 w0 F Q aE Z U a1 a w G=> ?_⟩
 refine aej (fun n a w=>∃ T H,kF P rd fb lo c e J I n T H∧cF P B0 w0 F T (H[·]?) a w) ?_ ⟨T,H,h,G⟩
 rintro n a w ⟨T,H,h,G⟩
 cases h with
 | last h a6=>
  refine h.wp ro ab B0 w0 F _ aE Z U (fun O w' M=> ?_) a w G
  have:=a1 O w' M
  cases e with
  | normal=>exact absurd rfl a6
  | _=>exact this
 | more h h'=>exact h.wp ro ab B0 w0 F _ aE Z U (fun O w' M=> ⟨_,Nat.lt_succ_self _,_,_,h',M⟩) a w G
theorem Lx {rd:Bool} {fb lo:Nat} {c:Code} {Z:List AV→Hp→Cn R→Option R} (hb:∀ T H k r,fb≤H.length→Z T H k=some r→∃ e I G,k e I G=some r∧Ends P rd fb lo c T H e I G):∀ (n:Nat) (T:List AV) (H:Hp) (k:Cn R) (r:R),fb≤H.length→tU Z n T H k=some r→∃ e I G m,k e I G=some r∧kF P rd fb lo c e I G m T H
 | 0,T,H,k,r,ab,h=>by cases h
 | n+1,T,H,k,r,ab,h=>by
  obtain ⟨e,O,M,U,J⟩:=hb T H _ r ab h
  cases e with
  | normal=>
   obtain ⟨e,I,G,m,aE,a1⟩:=Lx hb n O M k r J.len U
   exact ⟨e,I,G,m+1,aE, .more J a1⟩
  | exit id=>exact ⟨_,O,M,0,U, .last J (by intro h;cases h)⟩
  | ret=>exact ⟨_,O,M,0,U, .last J (by intro h;cases h)⟩
end
end Go.V
namespace Go.V
open Go Go.RowKit
section
variable {R : Type} {P : Program} {B0 : Nat → Prop} {w0 : World} {D : Nat → Prop} {α : Nat → Nat × Nat} {h : Hf} {w : World}
theorem vC (H:Hp) {i:Nat} (hi:i < H.length) (k:bI):((H.set i k)[·]?)=a8 (H[·]?) i (some k):=by
 funext m
 unfold a8
 by_cases G:m=i
 ·subst G;rw [if_pos rfl];exact List.getElem?_set_self hi
 ·rw [if_neg G];exact List.getElem?_set_ne (fun e=>G e.symm)
theorem Z9 (H:Hp) (k:bI):((H ++ [k])[·]?)=a8 (H[·]?) H.length (some k):=by
 funext m
 unfold a8
 by_cases G:m=H.length
 ·subst G;rw [if_pos rfl];simp
 ·rw [if_neg G]
  by_cases I:m < H.length
  ·exact List.getElem?_append_left I
  ·show (H ++ [k])[m]? =H[m]?
   rw [List.getElem?_eq_none (by simp;omega),List.getElem?_eq_none (by omega)]
theorem I2 {B l:Nat} (w:World) (o:Obj) (h:B≤l):bm B w (w.putObj l o):= ⟨⟨rfl,rfl,rfl,by simp,fun k G=>World.putObj_heap_other (by omega)⟩,Nat.le_refl _⟩
theorem C0 (Z:Ok P B0 w0 D α h w) {i:Nat} (hi:D i) {G:Rec} (I:h i=some (.loop G)) (st:LoopState) (da:Option Jump):
  ∃ L,w.heap[(α i).1]? =some (.loop L)∧L.state=G.st∧L.pending=G.da.map Jump.code∧L.params=G.params∧(∃ f ps,aI P G.g G.path=some (.rangeFunc f ps L.assign L.body))∧aj P α (Own B0 D α h) w G.T D L.tmps.toList∧
   Ok P B0 w0 D α (a8 h i (some (.loop { G with st:=st,da:=da }))) (w.putObj (α i).1 (.loop { L with state:=st,pending:=da.map Jump.code }))∧
   bA D D α α (aN D α h) (aN D α (a8 h i (some (.loop { G with st:=st,da:=da })))) w (w.putObj (α i).1 (.loop { L with state:=st,pending:=da.map Jump.code })):=by
 obtain ⟨L,J,ab,aE,M,O,U⟩:=Z.cJ i _ hi I
 refine ⟨L,J,ab,aE,M,O,U, ?_⟩
 exact yu Z hi I rfl rfl (by simp) (fun b hb=>World.putObj_heap_other hb) (fun B a1=>I2 w _ a1) (fun a6=> ⟨_,World.putObj_heap_same (Array.getElem?_eq_some_iff.1 J).1,rfl,rfl,M,O,aj.mono _ _ a6 U⟩)
theorem Wz {G:AV} {g:FuncId} {a b:List AV} (h:funcOf G=some (g,a,b)):G= .clo (.func g) a b∨∃ x y:Array Value,G= .val (.func (.func g) x y)∧a=x.toList.map gJ∧b=y.toList.map gJ:=by
 unfold funcOf at h
 split at h
 ·cases h;exact .inl rfl
 ·cases h;exact .inr ⟨_,_,rfl,rfl,rfl⟩
 ·cases h
theorem Marks.push {n:Nat} {w w1:World} {ds:List Deferred} (O:Marks n w ds) (aE:w.heap.size≤w1.heap.size) (ab:∀ r:Nat,w.heap[r]? =some (Obj.deferred (some []))→w1.heap[r]? =some (Obj.deferred (some []))) (Z:w1.heap[w.heap.size]? =some (Obj.deferred (some []))):Marks n w1 ([{ target:= .collected w.heap.size,args:= #[] }] ++ ds):=by
 obtain ⟨J,a1,rfl,M,I⟩:=O
 refine ⟨Nat.le_trans J aE,w.heap.size :: a1,rfl,List.nodup_cons.2 ⟨fun U=> ?_,M⟩,fun r G=> ?_⟩
 ·have:=(Array.getElem?_eq_some_iff.1 (I _ U).2).1
  omega
 ·rcases List.mem_cons.1 G with rfl | G
  ·exact ⟨J,Z⟩
  ·exact ⟨(I r G).1,ab r (I r G).2⟩
def rL (p:Option Jump):Ex:=match p with | none=> .normal | some .ret=> .ret | some (.exit n)=> .exit n
theorem aax {i:Nat} {T:List AV} {k:Cn R} {v:AV} {J:Hp} {r:R} (h:DV i T k v J=some r):∃ G,J[i]? =some (.loop G)∧G.st≠ .busy∧k (rL G.da) T (J.set i (.loop { G with st:= .exhausted }))=some r:=by
 unfold DV at h
 simp only [Bool.cond_eq_ite] at h
 split at h
 ·rename_i G M
  split at h
  ·cases h
  ·rename_i hb
   refine ⟨G,M,fun e=>hb (by rw [e];rfl), ?_⟩
   split at h
   ·rename_i I;rw [show rL G.da= .normal by rw [I];rfl];exact h
   ·rename_i I;rw [show rL G.da= .ret by rw [I];rfl];exact h
   ·rename_i n I;rw [show rL G.da= .exit n by rw [I];rfl];exact h
 ·cases h
theorem aay {x:Cx R} (hn:fk x) {f:Operand} {ps:Array Tmp} {assign body:Code} {p:List Bool} (hd:aI x.P x.g p=some (.rangeFunc f ps assign body)) {T:List AV} {H:Hp} {k:Cn R} {r:R} (h:DU x f ps p T H k=some r) (hs:x.fb≤H.length) (hv:x.lo≤x.fb):
  ∃ e c4 c3,k e c4 c3=some r∧Ends x.P x.rd x.fb x.lo (.rangeFunc f ps assign body) T H e c4 c3:=by
 unfold DU at h
 simp only [Bool.cond_eq_ite] at h
 split at h
 ·cases h
 ·rename_i b7
  have b7:x.rd=false:=by simpa using b7
  split at h
  ·rename_i q G
   obtain ⟨a7,eo,ep⟩:=q
   simp only at h
   split at h
   ·rename_i I
    obtain ⟨v,a1,et,c5,bx,eu⟩:=hn.cf _ _ _ _ _ _ I h
    obtain ⟨ct,e1,ek,en⟩:=aax et
    rw [List.length_append] at c5 bx
    simp only [List.length_singleton] at c5 bx
    have gf:H.length < a1.length:=by omega
    refine ⟨_,_,_,en, ⟨by rw [List.length_set];omega,fun q G=> ?_,fun ro ch B0 w0 F Q hx ht hr e5 a w hh=> ?_⟩⟩
    ·rw [List.getElem?_set_ne (by omega),bx (by omega) q G,List.getElem?_append_left (by omega)]
    ·have ch:=ch b7
     subst ch
     obtain ⟨eN,D,α,dy,b1,ez,e3⟩:=hh
     refine wpIn_rangeFunc (fun fn _=> ?_)
     have b3:(aB T f).Rel x.P α (Own B0 D α (H[·]?)) w D (a.eval f):=tF f (fun d _=>aj.slot b1 d)
     obtain ⟨ed,eg,b3,hf,hg⟩:=Cu (Wz G) b3
     have fa:bm w.heap.size w (w.alloc (.deferred (some []))):=(bm.refl _ _).alloc (Nat.le_refl _) _
     obtain ⟨e4,c6⟩:=nS dy fa
     have U:(w.alloc (.deferred (some []))).heap.size=w.heap.size+1:=by rw [World.size_alloc]
     have hc:¬ D H.length:=fun fh=>by obtain ⟨k,b5⟩:=dy.lt _ fh;have:=(List.getElem?_eq_some_iff.1 b5).1;omega
     obtain ⟨aE,bD⟩:=Da e4 (n:=H.length) hc (o:= .loop { state:= .ready,pending:=none,fn,tmps:=a.tmps,params:=ps,assign,body,defers:=w.heap.size }) (fun ds=>by intro e;cases e) (k:= .loop { T:=T,params:=ps,g:=x.g,path:=p,st:= .ready,da:=none }) rfl (sz:=0) (fun D' α' B' w' b5 hl=>
      ⟨_,hl,rfl,rfl,rfl, ⟨f,ps,hd⟩,aj.mono _ _ b5 (aj.mono _ _ (c6.keeps B0) b1)⟩)
     rw [← Z9] at aE bD
     obtain ⟨J,b2⟩:∃ J:World,J=((w.alloc (Obj.deferred (some []))).alloc (Obj.loop { state:= .ready,pending:=none,fn,tmps:=a.tmps,params:=ps,assign,body,defers:=w.heap.size })):= ⟨_,rfl⟩
     rw [← b2] at aE bD
     have c7:=c6.trans bD
     have ea:=c7.keeps B0
     have e6:aj x.P (eU α H.length ((w.alloc (.deferred (some []))).heap.size,0)) (Own B0 (fz D H.length) (eU α H.length ((w.alloc (.deferred (some []))).heap.size,0)) ((H ++ [bI.loop { T:=T,params:=ps,g:=x.g,path:=p,st:= .ready,da:=none }])[·]?)) J
       (eo ++ [.yld H.length] ++ ep) (fz D H.length) (ed ++ #[Value.func (.yield (w.heap.size+1)) #[] #[]] ++ eg).toList:=by
      rw [Array.toList_append,Array.toList_append]
      refine aj.append (aj.append (aj.mono _ _ ea hf) ⟨_, [],rfl, ⟨.inr rfl, ?_⟩,rfl⟩) (aj.mono _ _ ea hg)
      rw [eV,U]
     have fc:=eu B0 w0 _ _ _ _ aE e6
     refine ⟨w.heap.size+1, [{ target:= .collected w.heap.size,args:= #[] }],J, { target:= .fn (.func a7) eg,args:=ed ++ #[Value.func (.yield (w.heap.size+1)) #[] #[]] },J,a7,_,J,by rw [b2];exact run_enterLoop_outer fn a.tmps ps assign body, ?_,fun hq _=>trivial, ?_,(fun h=>by cases h),fc.mono ?_⟩
     ·simp only [resolve,b3,Deferred.ofValue,Sem.run_pure,List.map_toArray,List.map_cons,List.map_nil]
      rfl
     ·unfold fQ at I
      cases b4:x.P.funcs[a7]? with
      | none=>rw [b4] at I;cases I
      | some a6=>
       rw [b4] at I
       simp only [Bool.and_eq_true,Bool.not_eq_true',beq_eq_false_iff_ne] at I
       have hb:a6.body.isNone=false:=by
        cases e7:a6.body with
        | none=>rw [e7] at I;simp at I
        | some c=>rfl
       have gn : (a6.name == "runtime.NumGoroutine") = false := by simpa using I.2
       simp only [invoke,callFunc,Sem.run_bind,run_program,Result.andThen,b4,gn,hb,Bool.false_eq_true,if_false,Sem.run_pure]
     ·rintro e w3 ⟨y,c0,eh,rfl,b0,ev,ab,_⟩
      have fs:c0 H.length:=ab.le _ (.inr rfl)
      have ho:(eh H.length).1=w.heap.size+1:=by rw [ab.same _ (.inr rfl),eV,U]
      obtain ⟨L,l1,l2,l3,l4,hy,hz,O,M⟩:=C0 b0 fs e1 .exhausted ct.da
      rw [← vC a1 gf] at O M
      rw [ho] at l1 O M
      have fv:=run_endLoop (P:=x.P) l1 (by rw [l2];exact ek)
      rw [← l3] at O M
      refine ⟨L.pending,_,fv, ?_⟩
      have dx:=(c7.trans ab).trans M
      have e2:Marks F.w.heap.size J ([{ target:= .collected w.heap.size,args:= #[] }] ++ a.defers):=by
       rw [b2]
       refine eN.push (by rw [World.size_alloc,U];omega) (fun r ec=> ?_) ?_
       ·have b6:=(Array.getElem?_eq_some_iff.1 ec).1
        rw [Below.heap_alloc _ _ _ (by rw [U];omega),Below.heap_alloc _ _ _ b6];exact ec
       ·rw [Below.heap_alloc _ _ _ (by rw [U];omega)];exact World.alloc_heap_new w _
      have hj:cF x.P B0 w0 F T ((a1.set H.length (.loop { ct with st:= .exhausted }))[·]?) { a with defers:= [{ target:= .collected w.heap.size,args:= #[] }] ++ a.defers } (w3.putObj (w.heap.size+1) (.loop { L with state:= .exhausted })):=by
       refine ⟨(e2.mono aE b0 ab).mono b0 O M,c0,eh,O,aj.mono _ _ (dx.keeps B0) b1,ez.trans dx,fun i hi b6=> ?_⟩
       rcases ev i hi with (Z | Z) | Z
       ·exact e3 i Z b6
       ·omega
       ·rw [List.length_append] at Z;omega
      have G:=e5 _ _ hj
      rw [l3] at G ⊢
      cases eb:ct.da with
      | none=>rw [eb] at G;exact G
      | some j=>
       rw [eb] at G
       cases j with
       | ret=>exact wpIn_ret G
       | exit n=>exact wpIn_exit G
   ·cases h
  ·cases h
def wC (P:Program) (g:FuncId) (n:Nat) (p:List Bool) (T:List AV) (H:Hp) (e:Ex) (I:List AV) (G:Hp):Prop:=
 (∃ J,aI P g p=some (.loop J)∧Ends P false n 0 (.loop J) T H e I G)∨∃ c,aI P g p=some c∧yi c=false∧∀ v l,I=v :: l→H.length≤G.length∧df P g T H v G
theorem wC.loop {P:Program} {g:FuncId} {n:Nat} {p:List Bool} {T:List AV} {H:Hp} {e:Ex} {I:List AV} {G:Hp} (h:wC P g n p T H e I G) {b:Code} (U:aI P g p=some (.loop b)):∃ J,aI P g p=some (.loop J)∧Ends P false n 0 (.loop J) T H e I G:=by
 rcases h with h | ⟨c,M,O,_⟩
 ·exact h
 ·rw [U] at M;cases M;cases O
def dg (P:Program) (E:Env):Prop:=∀ g n p s T H e I G,E.L g n p=some s→s.2 T H=some (true,e,I,G)→wC P g n p T H e I G
theorem FJ {R:Type} {q:Option (Bool×Ex×List AV×Hp)} {k:Cn R} {r:R} (h:vW q k=some r):∃ e I G,q=some (true,e,I,G)∧k e I G=some r:=by
 unfold vW at h
 split at h
 ·rename_i q'
  obtain ⟨M,e,I,G⟩:=q'
  simp only [Bool.cond_eq_ite] at h
  split at h
  ·rename_i J
   subst J
   exact ⟨e,I,G,rfl,h⟩
  ·cases h
 ·cases h
theorem Ko {T:List AV} {c:Operand} {b:Bool} (h:aB T c= .val (.bool b)):Cr T c b=T:=by
 cases c with
 | tmp d=>exact fix_eq h
 | _=>rfl
theorem nh {P:Program} {g:FuncId} {p:List Bool} {c c':Code} {b:Bool} (h:aI P g p=some c) (G:child b c=some c'):aI P g (b :: p)=some c':=by
 show (aI P g p).bind (child b)=some c'
 rw [h]
 exact G
theorem tG {x:Cx R} (ek:fk x) (c7:dg x.P x.E) (ep:x.P.follows .mixedOrders=true):∀ (c:Code) (p:List Bool),aI x.P x.g p=some c→∀ (T:List AV) (H:Hp) (k:Cn R) (r:R),exec x c p T H k=some r→x.fb≤H.length→x.lo≤x.fb→
  ∃ e ab Z,k e ab Z=some r∧Ends x.P x.rd x.fb x.lo c T H e ab Z:=by
 intro c
 induction c with
 | skip=>intro p a6 T H k r h a1 bx;exact ⟨.normal,T,H,h, ⟨a1,fun _ _=>rfl,fun ro aE B0 w0 F Q U O M J a w G=>wpIn_skip (J a w G)⟩⟩
 | region id ops ez=>
  intro p a6 T H k r h a1 bx
  obtain ⟨ab,Z,a7,I,c5,b4⟩:=Wk ek rfl ep h
  exact ⟨.normal,ab,Z,a7, ⟨Nat.le_trans a1 I,c5 (Nat.le_trans bx a1),fun ro aE B0 w0 F Q U O M J a w G=>b4 ro B0 w0 F Q id U (Nat.le_trans O a1) J a w G⟩⟩
 | seq y z eb ec=>
  intro p a6 T H k r h a1 bx
  rw [exec] at h
  obtain ⟨e,c4,c3,a7,I⟩:=eb _ (nh a6 rfl) T H _ r h a1 bx
  cases e with
  | normal=>
   obtain ⟨e,ab,Z,c5,b4⟩:=ec _ (nh a6 rfl) c4 c3 k r a7 I.len bx
   refine ⟨e,ab,Z,c5, ⟨b4.len,fun q b1=>(b4.keep q b1).trans (I.keep q b1),fun ro aE B0 w0 F Q U O M J a w G=>wpIn_seq ?_⟩⟩
   exact I.wp ro aE B0 w0 F _ U O M (fun bD w' b0=>b4.wp ro aE B0 w0 F Q U O M J bD w' b0) a w G
  | exit n=>exact ⟨_,c4,c3,a7, ⟨I.len,I.keep,fun ro aE B0 w0 F Q U O M J a w G=>wpIn_seq (by refine I.wp ro aE B0 w0 F _ U O M (fun bD w' b0=> ?_) a w G;exact J bD w' b0)⟩⟩
  | ret=>exact ⟨_,c4,c3,a7, ⟨I.len,I.keep,fun ro aE B0 w0 F Q U O M J a w G=>wpIn_seq (by refine I.wp ro aE B0 w0 F _ U O M (fun bD w' b0=> ?_) a w G;exact J bD w' b0)⟩⟩
 | cond c1 y z eb ec=>
  intro p a6 T H k r h a1 bx
  rw [exec] at h
  unfold JG at h
  split at h
  ·rename_i v ea
   split at h
   ·rename_i t
    have eh:∀ {B0:Nat→Prop} {w0:World} {F:Fr} {a:Act} {w:World},cF x.P B0 w0 F T (H[·]?) a w→a.eval c1= .bool t:=by
     rintro B0 w0 F a w ⟨b7,D,α,ch,b5,_⟩
     have:=tF (P:=x.P) (D:=D) (α:=α) (B:=Own B0 D α (H[·]?)) (w:=w) (T:=T) (a:=a) c1 (fun d _=>aj.slot b5 d)
     rw [ea] at this
     exact this
    cases t with
    | true=>
     simp only [cond] at h
     rw [Ko ea] at h
     obtain ⟨e,ab,Z,a7,I⟩:=eb _ (nh a6 rfl) T H k r h a1 bx
     exact ⟨e,ab,Z,a7, ⟨I.len,I.keep,fun ro aE B0 w0 F Q U O M J a w G=>wpIn_cond_true (eh G) (I.wp ro aE B0 w0 F Q U O M J a w G)⟩⟩
    | false=>
     simp only [cond] at h
     rw [Ko ea] at h
     obtain ⟨e,ab,Z,a7,I⟩:=ec _ (nh a6 rfl) T H k r h a1 bx
     exact ⟨e,ab,Z,a7, ⟨I.len,I.keep,fun ro aE B0 w0 F Q U O M J a w G=>wpIn_cond_false (eh G) (I.wp ro aE B0 w0 F Q U O M J a w G)⟩⟩
   ·cases h
  ·cases h
 | block id b3 b6=>
  intro p a6 T H k r h a1 bx
  rw [exec] at h
  obtain ⟨e,ab,Z,a7,I⟩:=b6 _ (nh a6 rfl) T H _ r h a1 bx
  cases e with
  | normal=>exact ⟨.normal,ab,Z,a7, ⟨I.len,I.keep,fun ro aE B0 w0 F Q U O M J a w G=>wpIn_block (by refine I.wp ro aE B0 w0 F _ U O M (fun bD w' b0=> ?_) a w G;exact J bD w' b0)⟩⟩
  | exit eu=>
   unfold I7 at a7
   simp only [Bool.cond_eq_ite,beq_iff_eq] at a7
   split at a7
   ·rename_i dy
    exact ⟨.normal,ab,Z,a7, ⟨I.len,I.keep,fun ro aE B0 w0 F Q U O M J a w G=>wpIn_block (I.wp ro aE B0 w0 F _ U O M (fun bD w' b0=>by simp only [Ex.to,Exit.inBlock,if_pos dy];exact J bD w' b0) a w G)⟩⟩
   ·rename_i dy
    exact ⟨.exit eu,ab,Z,a7, ⟨I.len,I.keep,fun ro aE B0 w0 F Q U O M J a w G=>wpIn_block (I.wp ro aE B0 w0 F _ U O M (fun bD w' b0=>by simp only [Ex.to,Exit.inBlock,if_neg dy];exact J bD w' b0) a w G)⟩⟩
  | ret=>exact ⟨.ret,ab,Z,a7, ⟨I.len,I.keep,fun ro aE B0 w0 F Q U O M J a w G=>wpIn_block (by refine I.wp ro aE B0 w0 F _ U O M (fun bD w' b0=> ?_) a w G;exact J bD w' b0)⟩⟩
 | loop b3 b6=>
  intro p a6 T H k r h a1 bx
  rw [exec] at h
  unfold Lw at h
  simp only [Bool.cond_eq_ite] at h
  have en:tU (exec x b3 (false :: p)) x.u T H k=some r→∃ e ab Z,k e ab Z=some r∧Ends x.P x.rd x.fb x.lo (.loop b3) T H e ab Z:=by
   intro h
   obtain ⟨e,ab,Z,m,a7,I⟩:=Lx (P:=x.P) (rd:=x.rd) (fb:=x.fb) (lo:=x.lo) (c:=b3) (fun T H k r a1 h=>b6 _ (nh a6 rfl) T H k r h a1 bx) x.u T H k r a1 h
   exact ⟨e,ab,Z,a7,I.ends⟩
  split at h
  ·rename_i s G
   split at h
   ·exact en h
   ·rename_i c0
    rw [Bool.not_eq_true] at c0
    split at h
    ·rename_i et
     rw [beq_iff_eq] at et
     unfold oP tK at h
     simp only [Bool.cond_eq_ite] at h
     split at h
     ·rename_i ct
      obtain ⟨e,ab,Z,b1,h⟩:=FJ h
      obtain ⟨ed,hb,b2⟩:=(c7 x.g _ p s _ _ e ab Z G b1).loop a6
      rw [a6] at hb
      cases hb
      refine ⟨e,ab,Z,h, ⟨by omega,fun q b1=>by omega,fun ro aE B0 w0 F Q U O M J a w G=> ?_⟩⟩
      have eg:∀ i,¬ F.D i:=fun i hi=>by have:=M i hi;omega
      refine b2.wp ro (fun _=>aE c0) B0 w0 F Q U (by omega) (fun i hi=>absurd hi (eg i)) J a w ?_
      obtain ⟨b7,D,α,ch,b5,c6,dx⟩:=G
      exact N3 ct eg (by omega) ⟨b7,D,α,ch,ra b5,c6,dx⟩
     ·cases h
    ·split at h
     ·rename_i eo
      rw [beq_iff_eq] at eo
      split at h
      ·unfold KD KE at h
       simp only [Bool.cond_eq_ite,Bool.and_eq_true] at h
       split at h
       ·rename_i ct
        obtain ⟨e,ab,Z,b1,h⟩:=FJ h
        obtain ⟨ed,hb,b2⟩:=(c7 x.g _ p s _ _ e ab Z G b1).loop a6
        rw [a6] at hb
        cases hb
        refine ⟨e,ab,Z,h, ⟨b2.len,fun q b1=>by omega,fun ro aE B0 w0 F Q U O M J a w G=> ?_⟩⟩
        exact b2.wp ro (fun _=>aE c0) B0 w0 F Q U O M J a w (abJ ct.1 ct.2 O M G)
       ·cases h
      ·obtain ⟨e,ab,Z,b1,h⟩:=FJ h
       obtain ⟨ed,hb,b2⟩:=(c7 x.g _ p s _ _ e ab Z G b1).loop a6
       rw [a6] at hb
       cases hb
       refine ⟨e,ab,Z,h, ⟨b2.len,fun q b1=>by omega,fun ro aE B0 w0 F Q U O M J a w G=> ?_⟩⟩
       refine b2.wp ro (fun _=>aE c0) B0 w0 F Q U O M J a w ?_
       obtain ⟨b7,D,α,ch,b5,c6,dx⟩:=G
       exact ⟨b7,D,α,ch,ra b5,c6,dx⟩
     ·cases h
  ·exact en h
 | exit id=>intro p a6 T H k r h a1 bx;exact ⟨.exit id,T,H,h, ⟨a1,fun _ _=>rfl,fun ro aE B0 w0 F Q U O M J a w G=>wpIn_exit (J a w G)⟩⟩
 | scope b3 b6=>
  intro p a6 T H k r h a1 bx
  rw [exec] at h
  obtain ⟨e,ab,Z,a7,I⟩:=b6 _ (nh a6 rfl) T H _ r h a1 bx
  refine ⟨e,ab,Z,a7, ⟨I.len,I.keep,fun ro aE B0 w0 F Q U O M J a w G=>aek (I.wp ro aE B0 w0 F _ U O M (fun bD w' b0=> ?_) a w G)⟩⟩
  have:=J bD w' b0
  cases e <;> exact this
 | label l=>intro p a6 T H k r h a1 bx;exact ⟨.normal,T,H,h, ⟨a1,fun _ _=>rfl,fun ro aE B0 w0 F Q U O M J a w G=>wpIn_label (J a w G)⟩⟩
 | ret=>intro p a6 T H k r h a1 bx;exact ⟨.ret,T,H,h, ⟨a1,fun _ _=>rfl,fun ro aE B0 w0 F Q U O M J a w G=>wpIn_ret (J a w G)⟩⟩
 | rangeFunc f ps ev b3 _ _=>
  intro p a6 T H k r h a1 bx
  rw [exec] at h
  exact aay ek a6 h a1 bx
 | _=>intro p a6 T H k r h;simp [exec] at h
end
end Go.V
namespace Go.V
open Go Go.RowKit
section
variable {R : Type} {P : Program}
theorem En {T:List AV} {H:Hp} :∀ (l:List ResultVar) (K:List AV→Option R) (r:R),vu P T H l K=some r→∃ vs,K vs=some r∧
  ∀ {B0:Nat→Prop} {w0:World} {D:Nat→Prop} {α:Nat→Nat×Nat} {w:World} {tmps:Array Value},Ok P B0 w0 D α (H[·]?) w→aj P α (Own B0 D α (H[·]?)) w T D tmps.toList→∃ I,(l.mapM fun
   | .tmp t=>pure (tmps.getD t undef)
   | .cell x t=>do loadVar t (← asAddr (tmps.getD x undef)):Sem (List Value)).run P w= .ok I w∧aj P α (Own B0 D α (H[·]?)) w vs D I
 | [],K,r,h=> ⟨[],h,fun {B0 w0 D α w tmps} J G=> ⟨[],rfl,rfl⟩⟩
 | x :: l,K,r,h=>by
  unfold vu at h
  have Z:∀ (t:Nat) {B0:Nat→Prop} {D:Nat→Prop} {α:Nat→Nat×Nat} {w:World} {tmps:Array Value},aj P α (Own B0 D α (H[·]?)) w T D tmps.toList→(aB T (.tmp t)).Rel P α (Own B0 D α (H[·]?)) w D (tmps.getD t undef):=fun t {B0 D α w tmps} G=>tF (a:= { tmps:=tmps,defers:= [] }) (.tmp t) (fun d _=>aj.slot G d)
  cases x with
  | tmp t=>
   unfold D8 at h
   obtain ⟨vs,M,O⟩:=En l _ r h
   refine ⟨_,M,fun {B0 w0 D α w tmps} J G=> ?_⟩
   obtain ⟨I,k1,U⟩:=O J G
   refine ⟨tmps.getD t undef :: I, ?_,_,I,rfl,Z t G,U⟩
   simp only [List.mapM_cons,Sem.run_bind,Sem.run_pure,Result.andThen,k1]
  | cell x t=>
   unfold D8 at h
   obtain ⟨v,aE,a1⟩:=Lu h
   obtain ⟨vs,M,O⟩:=En l _ r aE
   refine ⟨_,M,fun {B0 w0 D α w tmps} J G=> ?_⟩
   obtain ⟨I,k1,U⟩:=O J G
   obtain ⟨b,off,y,a6,e1,ab⟩:=a1 (fun _ _ _ _=>rfl) J (Z x G)
   refine ⟨y :: I, ?_,_,I,rfl,ab,U⟩
   have ha:(asAddr (tmps.getD x undef)).run P w= .ok ⟨b,off,none⟩ w:=by rw [a6];rfl
   simp only [List.mapM_cons,Sem.run_bind,Sem.run_pure,ha,Result.andThen,e1,k1]
theorem ZK {D:Nat→Prop} {α:Nat→Nat×Nat} {B:Nat→Prop} {w:World} {vs:List AV} {G:List Value} (k:aj P α B w vs D G):(ry vs).Rel P α B w D (if h:G.toArray.size=1 then G.toArray[0] else .tuple G.toArray):=by
 have J:=aj.len k
 unfold ry
 split
 ·obtain ⟨y,zs,rfl,k1,O⟩:=k
  rw [show zs= [] from O]
  exact k1
 ·rename_i M
  rw [dif_neg ?_]
  ·exact ⟨_,rfl,k⟩
  ·intro I
   rw [List.size_toArray,J] at I
   cases vs with
   | nil=>cases I
   | cons v vs=>
    cases vs with
    | nil=>exact M v rfl
    | cons u vs=>simp at I
theorem Zw {B0:Nat→Prop} {w0:World} {D:Nat→Prop} {α:Nat→Nat×Nat} {h:Hf} {w:World} (I:Ok P B0 w0 D α h w) {m:Nat} {ds:Option (List Deferred)} (a1:w.heap[m]? =some (.deferred ds)) (bx:w0.heap.size≤m) (M:Option (List Deferred)):
  Ok P B0 w0 D α h (w.putObj m (.deferred M))∧eY D D α α (Own B0 D α h) (Own B0 D α h) w (w.putObj m (.deferred M)):=by
 have aE:∀ (b:Nat) (o:Obj),w.heap[b]? =some o→(∀ ds,o≠Obj.deferred ds)→(w.putObj m (.deferred M)).heap[b]? =some o:=by
  intro b o G J
  rw [World.putObj_heap_other (fun e=>by subst e;rw [a1] at G;cases G;exact J _ rfl)]
  exact G
 have ab:eY D D α α (Own B0 D α h) (Own B0 D α h) w (w.putObj m (.deferred M)):= ⟨fun _ h=>h,fun _ _=>rfl,fun b cs ty fr G J=> ⟨J,aE b _ G (fun ds e=>by cases e)⟩⟩
 refine ⟨⟨I.lt,I.below.trans (I2 w _ bx),fun b hb=> ?_,I.sep,fun i hi=>by rw [World.putObj_size];exact I.fresh i hi,I.inj,I.db,fun i k hi a6=> ?_⟩,ab⟩
 ·have G:=I.cN b hb
  refine ⟨by rw [World.putObj_size];exact G.1,fun ds=> ?_⟩
  rw [World.putObj_heap_other (fun e=>by subst e;exact G.2 _ a1)]
  exact G.2 ds
 ·have hb:=I.cJ i k hi a6
  cases k with
  | row c ty st=>
   rcases hb with hb | ⟨cs,fr,G,J,O,U,Z⟩
   ·exact .inl hb
   ·exact .inr ⟨cs,fr,aE _ _ G (fun ds e=>by cases e),J,O,U,aj.mono _ _ ab Z⟩
  | loop bD=>
   obtain ⟨L,G,J,O,U,Z,a7⟩:=hb
   exact ⟨L,aE _ _ G (fun ds e=>by cases e),J,O,U,Z,aj.mono _ _ ab a7⟩
theorem La {B0:Nat→Prop} {w0:World} {F:Fr} {h:Hf} {T:List AV} {J:Array Value} {Z:Func} {U:Ending→World→Prop} {D:Nat→Prop} {α:Nat→Nat×Nat} (bx:w0.heap.size≤F.w.heap.size)
  (aE:∀ w,Ok P B0 w0 D α h w→aj P α (Own B0 D α h) w T D J.toList→bA F.D D F.α α F.C (aN D α h) F.w w→∃ v,(results Z J).run P w= .ok v w∧U (.returned v) w):
  ∀ (I:List Nat) (w:World),I.Nodup→(∀ r ∈ I,F.w.heap.size≤r∧w.heap[r]? =some (.deferred (some [])))→Ok P B0 w0 D α h w→aj P α (Own B0 D α h) w T D J.toList→bA F.D D F.α α F.C (aN D α h) F.w w→
   LeavesInM Fence.wide 0 P Z J U (I.map fun r=> { target:= .collected r,args:= #[] }) .returning w
 | [],w,_,_,M,O,G=>aE w M O G
 | m :: I,w,b3,a6,M,O,G=>by
  obtain ⟨b2,a1⟩:=a6 m List.mem_cons_self
  obtain ⟨b4,b5⟩:=List.nodup_cons.1 b3
  obtain ⟨b0,b1⟩:=Zw M a1 (Nat.le_trans bx b2) none
  refine ⟨(by intro h;cases h), .inl ⟨m,_,rfl,run_takeDeferred a1, ?_⟩⟩
  refine La bx aE I _ b5 (fun r a7=> ?_) b0 (aj.mono _ _ b1 O) ⟨G.le,G.same,fun b o ab bD=> ?_⟩
  ·have:=a6 r (List.mem_cons_of_mem _ a7)
   exact ⟨this.1,(World.putObj_heap_other (fun e:r=m=>b4 (e ▸ a7))).trans this.2⟩
  ·have b6:=(Array.getElem?_eq_some_iff.1 ab).1
   have:=G.block b o ab bD
   exact ⟨this.1,(World.putObj_heap_other (by omega)).trans this.2⟩
theorem Mk {D:Nat→Prop} {α:Nat→Nat×Nat} {B:Nat→Prop} {w:World} :∀ (ps:List Tmp) (T:List AV) (args:List AV) (G:Array Value) (I:List Value),aj P α B w T D G.toList→aj P α B w args D I→
  aj P α B w (vA T ps args) D ((ps.zip I).foldl (fun (G:Array Value) (p:Tmp×Value)=>G.setIfInBounds p.1 p.2) G).toList
 | [],T,args,G,I,J,ha=>by simpa [vA] using J
 | p :: ps,T, [],G,I,J,ha=>by rw [show I= [] from ha];simpa [vA] using J
 | p :: ps,T,v :: args,G,I,J,ha=>by
  obtain ⟨y,zs,rfl,M,O⟩:=ha
  exact Mk ps (T.set p v) args (G.setIfInBounds p y) zs (by rw [Array.toList_setIfInBounds];exact aj.set J p M) O
theorem aaN {G:Func} {k:Kn R} {e:Ex} {T:List AV} {H:Hp} {r:R} (h:D9 P G k e T H=some r):(e= .normal∨e= .ret)∧vu P T H G.results.toList (fun vs=>k (ry vs) H)=some r:=by
 unfold D9 at h
 cases e with
 | normal=>exact ⟨.inl rfl,h⟩
 | ret=>exact ⟨.inr rfl,h⟩
 | exit id=>cases h
theorem BJ {E:Env} {u d:Nat} (c7:∀ fb lo g rd,fk (R:=R) ⟨P,E,fI P E u d,lf P E u d,u,fb,lo,g,rd⟩) (b3:dg P E) (ed:P.follows .mixedOrders=true):G0 P (R:=R) (fI P E u (d+1)):=by
 intro lo g args H k r ev h
 unfold fI at h
 split at h
 ·cases h
 ·rename_i J a7
  split at h
  ·cases h
  ·rename_i c a6
   have ep:aI P g []=some c:=by show (P.funcs[g]?).bind (·.body)=some c;rw [a7];exact a6
   split at h
   ·rename_i q G
    obtain ⟨ez,e,b1,I⟩:=q
    unfold O6 at G
    split at G
    ·rename_i s b0
     simp only [Bool.cond_eq_ite] at G
     split at G
     ·rename_i b6
      rw [Bool.and_eq_true,beq_iff_eq,Bool.not_eq_true'] at b6
      obtain ⟨rfl,ea⟩:=b6
      unfold O7 at h
      simp only [Bool.cond_eq_ite] at h
      split at h
      ·rename_i eh
       subst eh
       cases b1 with
       | nil=>cases h
       | cons v l=>
        rcases b3 g 0 [] s args H e (v :: l) I b0 G with ⟨b,M,_⟩ | ⟨c',_,_,Z⟩
        ·rw [ep] at M;cases M;cases ea
        ·obtain ⟨ab,aE⟩:=Z v l rfl
         exact ⟨v,I,h,ab,fun _ m ec=>absurd ec (Nat.not_lt_zero m),aE⟩
      ·cases h
     ·cases G
    ·cases G
   simp only [Bool.cond_eq_ite] at h
   split at h
   ·rename_i bD
    have bD:=of_decide_eq_true bD
    obtain ⟨e,b1,I,M,U⟩:=tG (c7 H.length lo g false) b3 ed c [] (by show (P.funcs[g]?).bind (·.body)=some c;rw [a7];exact a6) _ H _ r h (Nat.le_refl _) bD
    obtain ⟨dx,Z⟩:=aaN M
    obtain ⟨vs,ab,aE⟩:=En _ _ r Z
    refine ⟨ry vs,I,ab,U.len,fun _=>U.keep,fun B0 w0 D α w ch O b4=> ?_⟩
    have b5:=aj.len b4
    rw [Array.length_toList] at b5
    have b0:cF P B0 w0 ⟨H.length,D,α,aN D α (H[·]?),w⟩ (args ++ List.replicate (J.ntmps - args.length) (.val undef)) (H[·]?) { tmps:=ch ++ Array.replicate (J.ntmps - ch.size) undef,defers:= [] } w:=by
     refine ⟨⟨Nat.le_refl _, [],rfl,List.nodup_nil,fun r h=>by cases h⟩,D,α,O, ?_,bA.refl _ _ _ _,fun i hi _=>hi⟩
     rw [Array.toList_append,Array.toList_replicate,b5]
     refine aj.append b4 ?_
     rw [show List.replicate (J.ntmps - args.length) (AV.val undef)=(List.replicate (J.ntmps - args.length) undef).map .val by rw [List.map_replicate]]
     exact aj.vals _
    have eb:∀ i,D i→i < H.length:=fun i hi=>by obtain ⟨k,bx⟩:=O.lt i hi;exact (List.getElem?_eq_some_iff.1 bx).1
    refine callsIn_of_wp_marks (F:=Fence.wide) a7 a6 trivial (U.wp none (fun _=>rfl) B0 w0 ⟨H.length,D,α,aN D α (H[·]?),w⟩ _ O.below.size (Nat.le_refl _) eb (fun b2 w' eo=> ?_) _ w b0)
    obtain ⟨⟨_,eu,ek,eg,en⟩,D',α',c4,c5,ct,c3⟩:=eo
    have b7:LeavesInM Fence.wide 0 P J b2.tmps (sj P B0 w0 D α (H[·]?) w H.length I.length (ry vs) (I[·]?)) b2.defers .returning w':=by
     rw [ek]
     refine La (F:= ⟨H.length,D,α,aN D α (H[·]?),w⟩) O.below.size (fun w'' a1 c6 c0=> ?_) eu w' eg en c4 c5 ct
     obtain ⟨eN,k1,et⟩:=aE a1 c6
     refine ⟨_, ?_,_,D',α',rfl,a1,fun i hi=> ?_,c0,ZK et⟩
     ·unfold results
      simp only [Array.mapM_eq_mapM_toList,Sem.run_bind,Sem.run_map,Result.andThen,Sem.run_pure]
      erw [k1]
     ·by_cases dy:i < H.length
      ·exact .inl (c3 i hi dy)
      ·obtain ⟨k,bx⟩:=a1.lt i hi
       have:=(List.getElem?_eq_some_iff.1 bx).1
       exact .inr ⟨by omega,this⟩
    rcases dx with rfl | rfl
    ·exact b7
    ·exact b7
   ·cases h
theorem Wa {i:Nat} {k:Kn R} {e:Ex} {M:List AV} {I:Hp} {r:R} (h:xI i k e M I=some r):∃ G j b st,I[i]? =some (.loop G)∧k (.val (.bool b)) (I.set i (.loop { G with st:=st,da:=j }))=some r∧e=rL j∧b=j.isNone∧st=(if j.isNone then .ready else .done):=by
 unfold xI at h
 split at h
 ·rename_i G J
  cases e with
  | normal=>exact ⟨G,none,true, .ready,J,h,rfl,rfl,rfl⟩
  | ret=>exact ⟨G,some .ret,false, .done,J,h,rfl,rfl,rfl⟩
  | exit n=>exact ⟨G,some (.exit n),false, .done,J,h,rfl,rfl,rfl⟩
 ·cases h
theorem Ra {i:Nat} {B:Nat→List AV→Hp→Cn R→Option R} {k:Kn R} {e:Ex} {J:List AV} {I:Hp} {r:R} (h:By i B k e J I=some r):∃ G,e= .normal∧I[i]? =some (.loop G)∧G.st= .ready∧B I.length J (I.set i (.loop { G with st:= .busy })) (xI i k)=some r:=by
 unfold By at h
 simp only [Bool.cond_eq_ite] at h
 split at h
 ·split at h
  ·rename_i G O
   split at h
   ·rename_i M
    refine ⟨G,rfl,O, ?_,h⟩
    cases U:G.st <;> rw [U] at M <;> first | rfl | cases M
   ·cases h
  ·cases h
 ·cases h
theorem aba {l:Nat} {J:Ending→World→Prop} {j:Option Jump} {a:Act} {w w':World} (G:(Instr.endRound l (j.map Jump.code)).run P w= .ok (.bool j.isNone) w') (I:J (.returned (.bool j.isNone)) w'):roundPost P l J (rL j).to a w:=by
 cases j with
 | none=>exact ⟨_,_,G,I⟩
 | some j=>
  cases j with
  | ret=>exact ⟨_,_,G,I⟩
  | exit n=>exact ⟨_,_,G,I⟩
theorem aep {E:Env} {u d:Nat} (ch:∀ fb lo g rd,fk (R:=R) ⟨P,E,fI P E u d,lf P E u d,u,fb,lo,g,rd⟩) (b5:dg P E) (c5:P.follows .mixedOrders=true):IQ P (R:=R) (lf P E u (d+1)):=by
 intro lo i args H k r h
 unfold lf at h
 split at h
 ·rename_i G c7
  split at h
  ·rename_i f ps b2 b3 bD
   simp only [Bool.cond_eq_ite] at h
   split at h
   ·rename_i c6
    simp only [Bool.and_eq_true,beq_iff_eq,decide_eq_true_eq] at c6
    obtain ⟨⟨hv,eN⟩,ht⟩:=c6
    have hi:i < H.length:=(List.getElem?_eq_some_iff.1 c7).1
    obtain ⟨e1,hg,I,eh,ab⟩:=tG (ch H.length lo G.g true) b5 c5 b2 (false :: G.path) (nh bD rfl) _ H _ r h (Nat.le_refl _) (show lo≤H.length by omega)
    obtain ⟨hc,rfl,e6,fa,ek⟩:=Ra eh
    have c0:H.length≤I.length:=ab.len
    obtain ⟨hn,hh,Z,en,aE⟩:=tG (ch I.length lo G.g true) b5 c5 b3 (true :: G.path) (nh bD rfl) _ _ _ r ek (by simp) (show lo≤I.length by omega)
    obtain ⟨hG,j,b,st,e7,eo,rfl,rfl,rfl⟩:=Wa en
    have hs:I.length≤Z.length:=aE.len
    refine ⟨_,_,eo,by rw [List.length_set];omega,fun _ q O=> ?_,fun B0 w0 D α w b1 M J b7=> ?_⟩
    ·rw [List.getElem?_set_ne (by omega),aE.keep q O,List.getElem?_set_ne (by omega),ab.keep q O]
    ·obtain ⟨L,l1,l2,l3,l4, ⟨ho,hF,ea⟩,gf⟩:=M.cJ i _ J c7
     rw [bD] at ea
     obtain ⟨rfl,rfl⟩:b2=L.assign∧b3=L.body:=by cases ea;exact ⟨rfl,rfl⟩
     have c3:=aj.len b7
     rw [Array.length_toList] at c3
     have c4:∀ i,D i→i < H.length:=fun i hi=>by obtain ⟨k,b0⟩:=M.lt i hi;exact (List.getElem?_eq_some_iff.1 b0).1
     refine ⟨L.fn,_,L.assign,L.body,run_yield l1 (by rw [l4,← eN,c3]), ?_⟩
     refine roundIn_of_wpIn (F:=Fence.wide) trivial ?_
     have fv:((L.params.zip b1).foldl (fun tmps (t,a)=>tmps.setIfInBounds t a) L.tmps)=(G.params.toList.zip b1.toList).foldl (fun (tmps:Array Value) (p:Tmp×Value)=>tmps.setIfInBounds p.1 p.2) L.tmps:=by
      rw [← Array.foldl_toList,Array.toList_zip,l4]
     rw [fv]
     have fc:cF P B0 w0 ⟨H.length,D,α,aN D α (H[·]?),w⟩ (vA G.T G.params.toList args) (H[·]?) { tmps:=(G.params.toList.zip b1.toList).foldl (fun (tmps:Array Value) (p:Tmp×Value)=>tmps.setIfInBounds p.1 p.2) L.tmps,defers:= [] } w:=
      ⟨⟨Nat.le_refl _, [],rfl,List.nodup_nil,fun r h=>by cases h⟩,D,α,M,Mk _ _ _ _ _ gf b7,bA.refl _ _ _ _,fun i hi _=>hi⟩
     refine ab.wp (some (α i).1) (fun h=>by cases h) B0 w0 ⟨H.length,D,α,aN D α (H[·]?),w⟩ _ M.below.size (Nat.le_refl _) c4 (fun hj w1 fh=> ?_) _ w fc
     obtain ⟨ep,D1,α1,b6,ez,a1,et⟩:=fh
     have dx:α1 i=α i:=a1.same i J
     obtain ⟨hd,eb,m2,gn,hx,hy,hz,a7,U⟩:=C0 b6 (a1.le i J) e6 .busy hc.da
     have e2:i < I.length:=by omega
     rw [← vC I e2,dx,← gn] at a7 U
     rw [dx] at eb
     refine ⟨_,run_beginRound eb (m2.trans fa), ?_⟩
     refine aE.wp (some (α i).1) (fun h=>by cases h) B0 w0 ⟨H.length,D,α,aN D α (H[·]?),w⟩ _ M.below.size c0 (fun i hi=>Nat.lt_of_lt_of_le (c4 i hi) c0) (fun hl w2 fs=> ?_) _ _ ⟨ep.mono b6 a7 U,D1,α1,a7,aj.mono _ _ (U.keeps B0) ez,a1.trans U,et⟩
     obtain ⟨hq,eg,ed,ev,hr,a6,eu⟩:=fs
     have dy:ed i=α i:=a6.same i J
     obtain ⟨hf,ec,n2,hA,hB,hD,hE,bx,b4⟩:=C0 ev (a6.le i J) e7 (if j.isNone then .ready else .done) j
     have e3:i < Z.length:=by omega
     rw [← vC Z e3,dy] at bx b4
     rw [dy] at ec
     have ct:=run_endRound (P:=P) (j.map Jump.code) ec
     have e4:(j.map Jump.code).isNone=j.isNone:=by cases j <;> rfl
     rw [e4] at ct
     refine aba ct ⟨_,eg,ed,rfl,bx,fun q O=> ?_,a6.trans b4,rfl⟩
     by_cases e5:q < H.length
     ·exact .inl (eu q O e5)
     ·obtain ⟨k,b0⟩:=bx.lt q O
      have:=(List.getElem?_eq_some_iff.1 b0).1
      exact .inr ⟨by omega,this⟩
   ·cases h
  ·cases h
 ·cases h
theorem qG {E:Env} (G:bf P E.C) (I:dg P E) (J:P.follows .mixedOrders=true) (u:Nat):∀ (d fb lo:Nat) (g:FuncId) (rd:Bool),fk (R:=R) ⟨P,E,fI P E u d,lf P E u d,u,fb,lo,g,rd⟩
 | 0,fb,lo,g,rd=> ⟨G,fun lo g args H k r _ h=>by simp [fI] at h,fun lo i args H k r h=>by simp [lf] at h⟩
 | d+1,fb,lo,g,rd=> ⟨G,BJ (qG G I J u d) I J,aep (qG G I J u d) I J⟩
theorem qy {E:Env} (bD:bf P E.C) (J:dg P E) (O:P.follows .mixedOrders=true) {u d:Nat} {g:FuncId} {args:List AV} {v:AV} (b5:fQ P g=true) (h:aG P E u d g args=some v) (B:Nat→Prop) (w:World) (G:Array Value) (bx:∀ b,B b→b < w.heap.size∧∀ ds,w.heap[b]?≠some (.deferred ds)) (b3:aj P cp B w args bc G.toList):
  Calls P g G w fun e w'=>∃ y,e= .returned y∧bm w.heap.size w w'∧v.Rel P cp B w' bc y:=by
 unfold aG at h
 cases d with
 | zero=>simp [fI] at h
 | succ d=>
  obtain ⟨U,I,ab,ct,_,aE⟩:=BJ (R:=AV) (qG bD J O u d) J O 0 g args [] _ v b5 h
  obtain ⟨c3,a1,a6⟩:=Cv 8 U some v ab
  cases a1
  have b6:∀ b,Own B bc cp (([]:Hp)[·]?) b↔B b:=fun b=> ⟨fun h=>h.elim id (fun ⟨_,_,h,_⟩=>h.elim), .inl⟩
  have b1:Ok P B w bc cp (([]:Hp)[·]?) w:= ⟨fun i hi=>hi.elim,bm.refl _ _,bx,fun b _ ⟨_,_,h,_⟩=>h,fun i hi=>hi.elim,fun i j k l hi=>hi.elim,fun i k hi=>hi.elim,fun i k hi=>hi.elim⟩
  have b4:eY bc bc cp cp B (Own B bc cp (([]:Hp)[·]?)) w w:= ⟨fun _ h=>h,fun _ _=>rfl,fun b cs ty fr e1 Z=> ⟨fun h=>Z ((b6 b).1 h),e1⟩⟩
  have:=aE B w bc cp w G b1 (aj.mono _ _ b4 b3)
  refine (callsIn_wide.1 this).mono ?_
  rintro e w' ⟨y,D',α',rfl,M,_,c0,b7⟩
  obtain ⟨b2,b0⟩:=yr (cD I 8 [U]) M
  have a7:=a6 b2 (fun i c ty st hi ch=>Cz _ I i c ty (ch.elim (fun e=> .inr ⟨by rw [hi,e.1],e.2⟩) (fun e=> .inl (by rw [hi,e])))) y (AV.Rel.mono _ _ (b0.keeps B) b7)
  exact ⟨y,rfl,M.below,C5 (fun b hb=> .inl hb) a7⟩
end
end Go.V
namespace Go.V
open Go Go.RowKit
noncomputable section
def cx {R:Type} (P:Program) (E:Env) (g:FuncId):Cx R:= ⟨P,E,fI P E 200 40,lf P E 200 40,200,0,0,g,false⟩
def aP (P:Program) (E:Env) (g:FuncId) (keep:List Nat) (c:Code) (p:List Bool) (T:List AV) (H:Hp):Option (Ex×List AV×Hp):=
 exec (cx P E g) c p T H fun e T H=>oP keep T H fun T H=>some (e,T,H)
end
section
variable {P : Program} {E : Env} {g : FuncId}
theorem xJ {c:Code} {T:List AV} {H:Hp} {e:Ex} {O:List AV} {J:Hp} {keep:List Nat} {M:List AV} {I:Hp} (h:Ends P false 0 0 c T H e O J) (G:oP keep O J (fun T H=>some (T,H))=some (M,I)):Ends P false 0 0 c T H e M I:=by
 unfold oP tK at G
 simp only [Bool.cond_eq_ite] at G
 split at G
 ·rename_i b1
  cases G
  refine ⟨Nat.zero_le _,fun q b6=>by omega,fun ro b2 B0 w0 F Q b5 b0 U bx a w b3=>h.wp ro b2 B0 w0 F Q b5 b0 U (fun Z w' b4=>bx Z w' ?_) a w b3⟩
  have ab:∀ i,¬ F.D i:=fun i hi=>by have:=U i hi;omega
  obtain ⟨a1,D,α,a7,bD,aE,a6⟩:=b4
  exact N3 b1 ab (by omega) ⟨a1,D,α,a7,ra bD,aE,a6⟩
 ·cases G
theorem bK (Z:bf P E.C) (M:dg P E) (O:P.follows .mixedOrders=true) {keep:List Nat} {c:Code} {p:List Bool} (aE:aI P g p=some c) {T:List AV} {H:Hp} {e:Ex} {J:List AV} {I:Hp} (h:aP P E g keep c p T H=some (e,J,I)):Ends P false 0 0 c T H e J I:=by
 unfold aP at h
 obtain ⟨e1,a6,a1,G,U⟩:=tG (qG Z M O 200 40 0 0 g false) M O c p aE T H _ _ h (Nat.zero_le _) (Nat.le_refl _)
 unfold oP tK at G
 simp only [Bool.cond_eq_ite] at G
 split at G
 ·rename_i ab
  cases G
  refine xJ (keep:=keep) U ?_
  unfold oP tK
  simp only [Bool.cond_eq_ite]
  rw [if_pos ab]
 ·cases G
def aA (P:Program) (c:Code) (T:List AV) (H:Hp) (e:Ex) (I:List AV) (G:Hp):Prop:=∃ n,kF P false 0 0 c e I G n T H
theorem aA.more {c:Code} {T:List AV} {H:Hp} {M:List AV} {I:Hp} {e:Ex} {J:List AV} {G:Hp} (h:Ends P false 0 0 c T H .normal M I) (k:aA P c M I e J G):aA P c T H e J G:=by
 obtain ⟨n,k⟩:=k
 exact ⟨n+1, .more h k⟩
theorem aA.last {c:Code} {T:List AV} {H:Hp} {e:Ex} {I:List AV} {G:Hp} (h:Ends P false 0 0 c T H e I G) (J:e≠ .normal):aA P c T H e I G:= ⟨0, .last h J⟩
theorem aA.ends {c:Code} {T:List AV} {H:Hp} {e:Ex} {I:List AV} {G:Hp} (h:aA P c T H e I G):Ends P false 0 0 (.loop c) T H e I G:=by
 obtain ⟨n,h⟩:=h
 exact h.ends
def Entry (P:Program) (g:FuncId) (f:List AV→Option (Bool×AV)):Prop:=
 ∀ args r,f args=some (true,r)→∀ (B:Nat→Prop) (w:World) (G:Array Value),(∀ b,B b→b < w.heap.size∧∀ ds,w.heap[b]?≠some (.deferred ds))→aj P cp B w args bc G.toList→
  Calls P g G w fun e w'=>∃ y,e= .returned y∧bm w.heap.size w w'∧r.Rel P cp B w' bc y
theorem aZ (I:bf P E.C) (J:dg P E) (M:P.follows .mixedOrders=true) (O:fQ P g=true) {u d:Nat} {f:List AV→Option (Bool×AV)} (h:∀ args r,f args=some (true,r)→aG P E u d g args=some r):Entry P g f:=
 fun args r U B w ab G Z=>qy I J M O (h args r U) B w ab G Z
theorem aK (P:Program):bf P fun _ _=>none:=fun g args r h=>by cases h
abbrev aD:=FuncId→Nat→List Bool→Option (List Nat×(List AV→Hp→Option (Bool×Ex×List AV×Hp)))
theorem aO {P:Program} {C:FuncId→List AV→Option (Bool×AV)} {K:FuncId→Bool} :dg P ⟨C,K,fun _ _ _=>none⟩:=fun g n p s T H e I G h=>by cases h
def bu (n:Nat) (g:FuncId) (p:List Bool) (keep:List Nat) (f:List AV→Hp→Option (Bool×Ex×List AV×Hp)) (L:aD):aD:=
 fun G I J=>bif G==g&&I==n&&J==p then some (keep,f) else L G I J
def ma (g:FuncId) (p:List Bool) (keep:List Nat) (f:List AV→Hp→Option (Bool×Ex×List AV×Hp)) (L:aD):aD:=bu 0 g p keep f L
def au (g:FuncId) (f:List AV→Option (Bool×AV)) (C:FuncId→List AV→Option (Bool×AV)):FuncId→List AV→Option (Bool×AV):=
 fun G args=>bif G==g then f args else C G args
def aM:FuncId→List AV→Option (Bool×AV):=fun _ _=>none
def aq:aD:=fun _ _ _=>none
def aC (P:Program) (L:aD):Prop:=∀ g n p s T H e I G,L g n p=some s→s.2 T H=some (true,e,I,G)→wC P g n p T H e I G
theorem aC.ok {L:aD} (h:aC P L) {C:FuncId→List AV→Option (Bool×AV)} {K:FuncId→Bool} :dg P ⟨C,K,L⟩:=h
theorem aC.none:aC P aq:=fun g n p s T H e I G h=>by cases h
theorem aC.bC {L:aD} (ab:aC P L) {n:Nat} {g:FuncId} {p:List Bool} {keep:List Nat} {f:List AV→Hp→Option (Bool×Ex×List AV×Hp)} {M:Code} (hb:aI P g p=some (.loop M)) (h:∀ T H e I G,f T H=some (true,e,I,G)→Ends P false n 0 (.loop M) T H e I G):aC P (bu n g p keep f L):=by
 intro Z aE a1 s T H e I G J U
 unfold bu at J
 rw [Bool.cond_eq_ite] at J
 split at J
 ·rename_i O
  rw [Bool.and_eq_true,Bool.and_eq_true,beq_iff_eq,beq_iff_eq,beq_iff_eq] at O
  obtain ⟨⟨rfl,rfl⟩,rfl⟩:=O
  cases J
  exact .inl ⟨M,hb,h T H e I G U⟩
 ·exact ab Z aE a1 s T H e I G J U
def oA (g:FuncId) (f:List AV→Hp→Option (Bool×AV×Hp)) (L:aD):aD:=bu 0 g [] [] (fun T H=>(f T H).map fun r=>(r.1, .ret, [r.2.1],r.2.2)) L
theorem aC.oA {L:aD} (aE:aC P L) {g:FuncId} {f:List AV→Hp→Option (Bool×AV×Hp)} {c:Code} (a1:aI P g []=some c) (a6:yi c=false) (h:∀ T H v G,f T H=some (true,v,G)→H.length≤G.length∧df P g T H v G):aC P (oA g f L):=by
 intro U bx bD s T H e O G I J
 unfold V.oA bu at I
 rw [Bool.cond_eq_ite] at I
 split at I
 ·rename_i M
  rw [Bool.and_eq_true,Bool.and_eq_true,beq_iff_eq,beq_iff_eq,beq_iff_eq] at M
  obtain ⟨⟨rfl,rfl⟩,rfl⟩:=M
  cases I
  simp only [Option.map_eq_some_iff] at J
  obtain ⟨r,Z,ab⟩:=J
  obtain ⟨b1,rv,b0⟩:=r
  cases ab
  exact .inr ⟨c,a1,a6,fun v l a7=>by cases a7;exact h T H _ _ Z⟩
 ·exact aE U bx bD s T H e O G I J
theorem aC.nt {L:aD} (M:aC P L) {g:FuncId} {p:List Bool} {keep:List Nat} {f:List AV→Hp→Option (Bool×Ex×List AV×Hp)} {J:Code} (hb:aI P g p=some (.loop J)) (h:∀ T H e I G,f T H=some (true,e,I,G)→Ends P false 0 0 (.loop J) T H e I G):aC P (ma g p keep f L):=M.bC hb h
theorem aC.add {L:aD} (M:aC P L) {g:FuncId} {p:List Bool} {keep:List Nat} {f:List AV→Hp→Option (Bool×Ex×List AV×Hp)} {J:Code} (hb:aI P g p=some (.loop J)) (h:∀ T H e I G,f T H=some (true,e,I,G)→aA P J T H e I G):aC P (ma g p keep f L):=M.nt hb fun T H e I G O=>(h T H e I G O).ends
noncomputable def eL (P:Program) (E:Env) (n:Nat) (g:FuncId) (keep:List Nat) (c:Code) (p:List Bool) (T:List AV) (H:Hp):Option (Ex×List AV×Hp):=
 bif decide (n≤H.length) then exec ⟨P,E,fI P E 200 40,lf P E 200 40,200,n,0,g,false⟩ c p T H fun e T H=>some (e,kL keep T,H) else Option.none
theorem pF (aE:bf P E.C) (M:dg P E) (O:P.follows .mixedOrders=true) {n:Nat} {keep:List Nat} {c:Code} {p:List Bool} (b3:aI P g p=some c) {T:List AV} {H:Hp} {e:Ex} {J:List AV} {I:Hp} (h:eL P E n g keep c p T H=some (e,J,I)):Ends P false n 0 c T H e J I:=by
 unfold eL at h
 rw [Bool.cond_eq_ite] at h
 split at h
 ·rename_i U
  rw [decide_eq_true_eq] at U
  obtain ⟨e1,ct,ch,ab,G⟩:=tG (qG aE M O 200 40 n 0 g false) M O c p b3 T H _ _ h U (Nat.zero_le _)
  cases ab
  exact ⟨G.len,G.keep,fun ro b4 B0 w0 F Q b7 b2 a1 b0 a w b5=>G.wp ro b4 B0 w0 F Q b7 b2 a1 (fun Z w' b6=>b0 Z w' (by
   obtain ⟨a7,D,α,bD,b1,a6,bx⟩:=b6
   exact ⟨a7,D,α,bD,ra b1,a6,bx⟩)) a w b5⟩
 ·cases h
def bN (P:Program) (n:Nat) (c:Code) (T:List AV) (H:Hp) (e:Ex) (I:List AV) (G:Hp):Prop:=∃ m,kF P false n 0 c e I G m T H
theorem bN.more {n:Nat} {c:Code} {T:List AV} {H:Hp} {M:List AV} {I:Hp} {e:Ex} {J:List AV} {G:Hp} (h:Ends P false n 0 c T H .normal M I) (k:bN P n c M I e J G):bN P n c T H e J G:=by
 obtain ⟨m,k⟩:=k
 exact ⟨m+1, .more h k⟩
theorem bN.last {n:Nat} {c:Code} {T:List AV} {H:Hp} {e:Ex} {I:List AV} {G:Hp} (h:Ends P false n 0 c T H e I G) (J:e≠ .normal):bN P n c T H e I G:= ⟨0, .last h J⟩
theorem bN.ends {n:Nat} {c:Code} {T:List AV} {H:Hp} {e:Ex} {I:List AV} {G:Hp} (h:bN P n c T H e I G):Ends P false n 0 (.loop c) T H e I G:=by
 obtain ⟨m,h⟩:=h
 exact h.ends
theorem bf.add {C:FuncId→List AV→Option (Bool×AV)} (M:bf P C) {f:List AV→Option (Bool×AV)} (h:Entry P g f):bf P (au g f C):=by
 intro J args r G
 unfold au at G
 rw [Bool.cond_eq_ite] at G
 split at G
 ·rename_i I
  rw [beq_iff_eq] at I
  subst I
  exact h args r G
 ·exact M J args r G
theorem Ends.pre {n:Nat} {c:Code} {T J:List AV} {H:Hp} {e:Ex} {I:List AV} {G:Hp} (h:Ends P false n 0 c J H e I G) (b0:∀ (α:Nat→Nat×Nat) (B:Nat→Prop) (w:World) (D:Nat→Prop) (M:List Value),aj P α B w T D M→aj P α B w J D M):Ends P false n 0 c T H e I G:=
 ⟨h.len,h.keep,fun ro bx B0 w0 F Q b1 a7 O a1 a w bD=>h.wp ro bx B0 w0 F Q b1 a7 O a1 a w (by obtain ⟨Z,D,α,aE,a6,U,ab⟩:=bD;exact ⟨Z,D,α,aE,b0 _ _ _ _ _ a6,U,ab⟩)⟩
theorem tV {fl:Bool} {t:TypeId} {m:Nat} {f:Nat→Nat→AV} {α:Nat→Nat×Nat} {B:Nat→Prop} {w:World} {D:Nat→Prop} {x:Value} (h:(AV.lst fl t m f).Rel P α B w D x):(AV.lst false t m f).Rel P α B w D x:=by
 obtain ⟨A,cap,G,I,M,J⟩:=h
 exact ⟨A,cap,G,I,(fun h=>by cases h),J⟩
def Ey:List (Nat×AV)→Nat→AV
 | [],_=> .any
 | p :: l,i=>bif p.1==i then p.2 else Ey l i
def ao (n:Nat) (l:List (Nat×AV)):List AV:=(List.range n).map (Ey l)
theorem bw {n:Nat} {l:List (Nat×AV)} {T:List AV} {α:Nat→Nat×Nat} {B:Nat→Prop} {w:World} {D:Nat→Prop} {ab:List Value} (a1:T.length=n) (h:∀ p ∈ l,∀ y,(al T p.1).Rel P α B w D y→p.2.Rel P α B w D y) (G:aj P α B w T D ab):aj P α B w (ao n l) D ab:=by
 unfold ao
 refine aj.nO (by rw [aj.len G,List.length_map,List.length_range,a1]) (fun i v Z=> ?_)
 rw [List.getElem?_map,Option.map_eq_some_iff] at Z
 obtain ⟨j,M,rfl⟩:=Z
 obtain ⟨aE,O⟩:=List.getElem?_eq_some_iff.1 M
 rw [List.getElem_range] at O
 subst O
 rw [List.length_range] at aE
 obtain ⟨y,I,J⟩:=aj.get G (List.getElem?_eq_getElem (show i < T.length by omega))
 refine ⟨y,I, ?_⟩
 rw [← yg (List.getElem?_eq_getElem (show i < T.length by omega))] at J
 clear M I G
 induction l with
 | nil=>trivial
 | cons p l a7=>
  unfold Ey
  cases U:(p.1==i) with
  | true=>
   rw [beq_iff_eq] at U
   subst U
   exact h p List.mem_cons_self y J
  | false=>exact a7 (fun q a6=>h q (List.mem_cons_of_mem _ a6))
end
end Go.V
noncomputable section
namespace Go.V
open Go Go.RowKit
section
variable {P : Program} {B0 : Nat → Prop} {w0 w : World} {F : Fr}
def gC (P:Program):bI→bI→Prop
 | .row c ty st, .row c' M J=>(c.len=c'.len∧∀ (α:Nat→Nat×Nat) (B:Nat→Prop) (w:World) (D:Nat→Prop) (G:List Value),aj P α B w c.aW D G→aj P α B w c'.aW D G)∧ty=M∧st=J
 | .loop r, .loop I=>r=I
 | _,_=>False
theorem gC.refl (k:bI):gC P k k:=by cases k <;> first | exact ⟨⟨rfl,fun _ _ _ _ _ h=>h⟩,rfl,rfl⟩ | exact rfl
theorem NZ {c c':an} (h:c.aW=c'.aW):c.len=c'.len∧∀ (α:Nat→Nat×Nat) (B:Nat→Prop) (w:World) (D:Nat→Prop) (G:List Value),aj P α B w c.aW D G→aj P α B w c'.aW D G:=
 ⟨by rw [← an.eZ,← an.eZ,h],fun _ _ _ _ _ k=>by rw [← h];exact k⟩
theorem gC.live {k G:bI} (h:gC P k G):k.isLive=G.isLive∧k.iG=G.iG:=by
 cases k with
 | row c ty st=>
  cases G with
  | row c' J I=>
   obtain ⟨_,_,rfl⟩:=h
   cases st <;> exact ⟨rfl,rfl⟩
  | loop r=>exact h.elim
 | loop r=>
  cases G with
  | row c' J I=>exact h.elim
  | loop M=>exact ⟨rfl,rfl⟩
def bL (P:Program) (H G:Hp):Prop:=H.length=G.length∧∀ (i:Nat) (k I:bI),H[i]? =some k→G[i]? =some I→gC P k I
theorem bL.get {H G:Hp} (h:bL P H G) {i:Nat} {J:bI} (I:G[i]? =some J):∃ k,H[i]? =some k∧gC P k J:=by
 have hi:i < H.length:=by rw [h.1];exact (List.getElem?_eq_some_iff.1 I).1
 exact ⟨H[i],List.getElem?_eq_getElem hi,h.2 i _ _ (List.getElem?_eq_getElem hi) I⟩
theorem bL.get' {H G:Hp} (h:bL P H G) {i:Nat} {k:bI} (I:H[i]? =some k):∃ J,G[i]? =some J∧gC P k J:=by
 have hi:i < G.length:=by rw [← h.1];exact (List.getElem?_eq_some_iff.1 I).1
 exact ⟨G[i],List.getElem?_eq_getElem hi,h.2 i _ _ I (List.getElem?_eq_getElem hi)⟩
theorem abA {H ab:Hp} (h:bL P H ab) (D:Nat→Prop) (α:Nat→Nat×Nat):aN D α (ab[·]?)=aN D α (H[·]?):=by
 funext b
 refine propext ⟨?_, ?_⟩
 ·rintro ⟨i,k,G,I,J,M⟩
  obtain ⟨Z,O,U⟩:=h.get I
  exact ⟨i,Z,G,O,by rw [U.live.1];exact J,M⟩
 ·rintro ⟨i,k,G,I,J,M⟩
  obtain ⟨Z,O,U⟩:=h.get' I
  exact ⟨i,Z,G,O,by rw [← U.live.1];exact J,M⟩
theorem abL {T:List AV} {H aE:Hp} (U:bL P H aE) {a:Act} (h:cF P B0 w0 F T (H[·]?) a w):cF P B0 w0 F T (aE[·]?) a w:=by
 obtain ⟨bD,D,α,J,b1,bx,b0⟩:=h
 have e1:=abA U D α
 have a1:Own B0 D α (aE[·]?)=Own B0 D α (H[·]?):=by unfold Own;rw [e1]
 refine ⟨bD,D,α, ⟨?_,J.below,J.cN,by rw [e1];exact J.sep,J.fresh, ?_, ?_, ?_⟩,by rw [a1];exact b1,by rw [e1];exact bx,b0⟩
 ·intro i hi
  obtain ⟨k,b3⟩:=J.lt i hi
  obtain ⟨M,I,_⟩:=U.get' b3
  exact ⟨M,I⟩
 ·intro i j k l hi b2 I O Z ab a6
  obtain ⟨M,g1,G⟩:=U.get I
  obtain ⟨b4,g2,b6⟩:=U.get O
  rw [← G.live.1] at Z
  rw [← b6.live.1] at ab
  exact J.inj i j M b4 hi b2 g1 g2 Z ab a6
 ·intro i k hi I O
  obtain ⟨M,g1,G⟩:=U.get I
  rw [← G.live.2] at O
  rw [a1]
  exact J.db i M hi g1 O
 ·intro i k hi I
  obtain ⟨M,g1,G⟩:=U.get I
  rw [a1]
  have hb:=J.cJ i M hi g1
  cases M with
  | row c ty st=>
   cases k with
   | row c' ch b7=>
    obtain ⟨⟨a7,q1⟩,rfl,rfl⟩:=G
    rcases hb with hb | ⟨cs,fr,I,O,Z,ab,a6⟩
    ·exact .inl hb
    ·exact .inr ⟨cs,fr,I,O,Z,by rw [← a7];exact ab,by rw [← a7];exact q1 _ _ _ _ _ a6⟩
   | loop r=>exact G.elim
  | loop r=>
   cases k with
   | row c' ch b7=>exact G.elim
   | loop b5=>
    have G:r=b5:=G
    subst G
    exact hb
theorem bL.nil:bL P [] []:= ⟨rfl,fun i k G h=>by cases h⟩
theorem bL.cons {k O:bI} {H G:Hp} (h:gC P k O) (M:bL P H G):bL P (k :: H) (O :: G):=by
 refine ⟨by rw [List.length_cons,List.length_cons,M.1],fun i l U I J=> ?_⟩
 cases i with
 | zero=>cases I;cases J;exact h
 | succ i=>exact M.2 i l U I J
theorem Ends.iM {n:Nat} {c:Code} {T:List AV} {H I:Hp} {e:Ex} {J:List AV} {G:Hp} (h:Ends P false n 0 c T I e J G) (ab:bL P H I):Ends P false n 0 c T H e J G:=
 ⟨h.len,fun q a6=>by omega,fun ro Z B0 w0 F Q a1 U M O a w aE=>h.wp ro Z B0 w0 F Q a1 U M O a w (abL ab aE)⟩
theorem aA.iM {c:Code} {T:List AV} {H I:Hp} {e:Ex} {J:List AV} {G:Hp} (h:aA P c T I e J G) (M:bL P H I):aA P c T H e J G:=by
 obtain ⟨n,h⟩:=h
 cases h with
 | last h O=>exact ⟨0, .last (h.iM M) O⟩
 | more h k=>exact ⟨_, .more (h.iM M) k⟩
end
def aL:Value→Value→Value→Bool
 | .bool _, .string _, .string _=>true
 | _,_,_=>false
theorem fO {x y z:Value} (h:aL x y z=true):x= .bool (ar x)∧y= .string (ag y)∧z= .string (ag z):=by
 unfold aL at h
 split at h
 ·exact ⟨rfl,rfl,rfl⟩
 ·cases h
def wM (x y z:Value):AV:= .agg [.val (.bool (ar x)), .val (.string (ag y)), .val (.string (ag z))]
def Bx (x y z u v t:Value):AV:= .agg [.val (.bool (ar x)), .val (.string (ag y)), .val (.string (ag z)), .val (.bool (ar u)), .val (.string (ag v)), .val (.string (ag t))]
def oB (c:Bool):Option (Bool×AV)→Option (Bool×AV)
 | some r=>some (c&&r.1,r.2)
 | none=>none
theorem sF {c:Bool} {o:Option (Bool×AV)} {r:AV} (h:oB c o=some (true,r)):c=true∧o=some (true,r):=by
 cases o with
 | none=>cases h
 | some q=>
  simp only [oB,Option.some.injEq,Prod.mk.injEq,Bool.and_eq_true] at h
  obtain ⟨⟨G,I⟩,J⟩:=h
  refine ⟨G, ?_⟩
  rw [← I,← J]
def gR (f:List AV→Option (Bool×AV)):List AV→Option (Bool×AV):=fun args=>match args with
 | .agg [.val x, .val y, .val z] :: l=>oB (aL x y z) (f (wM x y z :: l))
 | _=>none
def cG (f:List AV→Option (Bool×AV)):List AV→Option (Bool×AV):=fun args=>match args with
 | .agg [.val x, .val y, .val z] :: .agg [.val u, .val v, .val t] :: l=>oB (aL x y z&&aL u v t) (f (wM x y z :: wM u v t :: l))
 | _=>none
def gP (f:List AV→Option (Bool×AV)):List AV→Option (Bool×AV):=fun args=>match args with
 | .agg [.val x, .val y, .val z, .val u, .val v, .val t] :: l=>oB (aL x y z&&aL u v t) (f (Bx x y z u v t :: l))
 | _=>none
def oO (f:List AV→Option (Bool×AV)):List AV→Option (Bool×AV):=fun args=>match args with
 | .agg [.val x, .val y, .val z, .val u, .val v, .val t] :: .agg [.val x2, .val J, .val z2, .val I, .val v2, .val G] :: l=>oB (aL x y z&&aL u v t&&(aL x2 J z2&&aL I v2 G)) (f (Bx x y z u v t :: Bx x2 J z2 I v2 G :: l))
 | _=>none
section
variable {P : Program} {g : FuncId} {f : List AV → Option (Bool × AV)}
theorem Entry.less {G:List AV→Option (Bool×AV)} (h:Entry P g f) (I:∀ args r,G args=some (true,r)→f args=some (true,r)):Entry P g G:=fun args r J=>h args r (I args r J)
theorem Entry.gR (h:Entry P g f):Entry P g (gR f):=h.less fun args r G=>by
 unfold V.gR at G
 split at G
 ·obtain ⟨M,O⟩:=sF G
  obtain ⟨e1,I,J⟩:=fO M
  rw [e1,I,J];exact O
 ·cases G
theorem Entry.cG (h:Entry P g f):Entry P g (cG f):=h.less fun args r G=>by
 unfold V.cG at G
 split at G
 ·obtain ⟨I,ab⟩:=sF G
  rw [Bool.and_eq_true] at I
  obtain ⟨e1,J,M⟩:=fO I.1
  obtain ⟨O,U,Z⟩:=fO I.2
  rw [e1,J,M,O,U,Z];exact ab
 ·cases G
theorem Entry.gP (h:Entry P g f):Entry P g (gP f):=h.less fun args r G=>by
 unfold V.gP at G
 split at G
 ·obtain ⟨I,ab⟩:=sF G
  rw [Bool.and_eq_true] at I
  obtain ⟨e1,J,M⟩:=fO I.1
  obtain ⟨O,U,Z⟩:=fO I.2
  rw [e1,J,M,O,U,Z];exact ab
 ·cases G
theorem Entry.oO (h:Entry P g f):Entry P g (oO f):=h.less fun args r I=>by
 unfold V.oO at I
 split at I
 ·obtain ⟨G,bx⟩:=sF I
  rw [Bool.and_eq_true,Bool.and_eq_true,Bool.and_eq_true] at G
  obtain ⟨e1,ab,aE⟩:=fO G.1.1
  obtain ⟨a1,a6,a7⟩:=fO G.1.2
  obtain ⟨d1,J,M⟩:=fO G.2.1
  obtain ⟨O,U,Z⟩:=fO G.2.2
  rw [e1,ab,aE,a1,a6,a7,d1,J,M,O,U,Z];exact bx
 ·cases I
end
def af (sz:Nat) (vs:List Value):Nat→Nat→AV:=fun j q=> .val (vs.getD (j*sz+q) undef)
theorem NN {sz m:Nat} {f:Nat→Nat→AV} (h:aw sz m f=true) {j q:Nat} (U:j < m) (M:q < sz):f j q=af sz (ai sz m f) j q:=by
 have hi:j*sz+q < m*sz:=by
  have:(j+1)*sz≤m*sz:=Nat.mul_le_mul_right _ U
  rw [Nat.add_mul,Nat.one_mul] at this
  omega
 have I:(j*sz+q) / sz=j:=by rw [Nat.mul_comm,Nat.mul_add_div (by omega),Nat.div_eq_of_lt M,Nat.add_zero]
 have J:(j*sz+q) % sz=q:=by rw [Nat.mul_comm,Nat.mul_add_mod,Nat.mod_eq_of_lt M]
 have G:=List.all_eq_true.1 h (j*sz+q) (List.mem_range.2 hi)
 rw [I,J] at G
 unfold af ai
 rw [List.getD_eq_getElem?_getD,List.getElem?_map,List.getElem?_range hi,Option.map_some,Option.getD_some,I,J]
 cases O:f j q with
 | val v=>rfl
 | _=>rw [O] at G;exact absurd G (by simp [isVal])
theorem kV {P:Program} {t:TypeId} {sz m:Nat} {f:Nat→Nat→AV} {fl:Bool} {α:Nat→Nat×Nat} {B:Nat→Prop} {w:World} {D:Nat→Prop} {x:Value} (Z:P.cellsOf t=sz) (h:aw sz m f=true) (ab:(AV.lst fl t m f).Rel P α B w D x):(AV.lst false t m (af sz (ai sz m f))).Rel P α B w D x:=by
 obtain ⟨A,cap,O,U,a6,G⟩:=ab
 refine ⟨A,cap,O,U,(fun h=>by cases h), ?_⟩
 rcases G with G | ⟨b,o,cs,ty,fr,q1,q2,aE,a1⟩
 ·exact .inl G
 ·refine .inr ⟨b,o,cs,ty,fr,q1,q2,aE,fun j k J I=> ?_⟩
  obtain ⟨y,e1,M⟩:=a1 j k J I
  refine ⟨y,e1, ?_⟩
  rw [Z] at I
  rw [← NN h J I]
  exact M
theorem mV {P:Program} {t u:TypeId} {sz G m n:Nat} {f g:Nat→Nat→AV} {fl J:Bool} (Z:P.cellsOf t=sz) (ab:P.cellsOf u=G) (h:aw sz m f=true) (k:aw G n g=true) {α:Nat→Nat×Nat} {B:Nat→Prop} {w:World} {D:Nat→Prop} {I:List Value} (aE:aj P α B w [.lst fl t m f, .lst J u n g] D I):aj P α B w [.lst false t m (af sz (ai sz m f)), .lst false u n (af G (ai G n g))] D I:=by
 obtain ⟨y,zs,rfl,M,z,a1,rfl,O,U⟩:=aE
 exact ⟨y,_,rfl,kV Z h M,z,_,rfl,kV ab k O,U⟩
end Go.V
end
