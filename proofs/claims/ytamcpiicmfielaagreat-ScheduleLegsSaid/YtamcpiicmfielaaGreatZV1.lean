import Derived.RangeFuncRecord
import Derived.Below
import Derived.OrdersIn
import Derived.Laws.Cells
import Derived.Laws.Append
import Derived.Laws.MakeOwn
import Derived.KernelRfl
import Derived.ChangeKeysEq
import Derived.Laws.Slices
import Derived.Laws.Strings2
import Derived.Laws.StructEq
import Derived.Laws.Concat
import Derived.Laws.BytesString
import Derived.Lib.AppendZeros
set_option linter.unusedVariables false
set_option linter.unusedSimpArgs false
namespace Go.V
open Go Go.RowKit
def mT (P:Program) {α:Type} :Sem α→Option α
 | .pure a=>some a
 | .program k=>mT P (k P)
 | .mark _ k=>mT P k
 | _=>none
theorem Z8 (P:Program) {α:Type} (s:Sem α):∀ {a:α},mT P s=some a→∀ w,s.run P w= .ok a w:=by
 induction s with
 | pure a=>intro b h w;simp only [mT,Option.some.injEq] at h;subst h;rfl
 | program k G=>intro b h w;exact G P h w
 | mark m k G=>intro b h w;exact G h w
 | _=>intro b h;simp [mT] at h
inductive AV where
 | any
 | val (v:Value)
 | ptr (i off:Nat)
 | sl (full:Bool) (t:TypeId) (i off len:Nat)
 | lst (full:Bool) (t:TypeId) (n:Nat) (f:Nat→Nat→AV)
 | eptr (t:TypeId) (n:Nat) (f:Nat→Nat→AV) (j off:Nat)
 | agg (cs:List AV)
 | tup (vs:List AV)
 | clo (fn:Fn) (first captured:List AV)
 | yld (i:Nat)
 deriving Inhabited
def dU (P:Program) (t:TypeId):Bool:=match P.underlying t with | some (.struct _) | some (.array _ _)=>true | _=>false
def bc:Nat→Prop:=fun _=>False
mutual
def AV.Rel (P:Program) (α:Nat→Nat×Nat) (B:Nat→Prop) (w:World):AV→(Nat→Prop)→Value→Prop
 | .any,_,_=>True
 | .val v,_,x=>x=v
 | .ptr i off,D,x=>D i∧x= .pointer (some ⟨(α i).1,off,none⟩)
 | .sl I t i off len,D,x=>D i∧∃ cap o,x= .slice (some ⟨(α i).1,o,none⟩) len cap∧len≤cap∧(I=true→cap=len)∧(cap=0∨o=off∧off+cap*P.cellsOf t≤(α i).2)
 | .lst I t n f,_,x=>∃ A cap,x= .slice A n cap∧n≤cap∧(I=true→cap=n)∧(n=0∨∃ b o cs ty fr,A=some ⟨b,o,none⟩∧¬ B b∧w.heap[b]? =some (.cells cs ty fr)∧
   ∀ j k,j < n→k < P.cellsOf t→∃ y,cs[o+j*P.cellsOf t+k]? =some y∧(f j k).Rel P α B w bc y)
 | .eptr t n f j off,_,x=>j < n∧∃ b o cs ty fr,x= .pointer (some ⟨b,o+j*P.cellsOf t+off,none⟩)∧¬ B b∧w.heap[b]? =some (.cells cs ty fr)∧
   ∀ j k,j < n→k < P.cellsOf t→∃ y,cs[o+j*P.cellsOf t+k]? =some y∧(f j k).Rel P α B w bc y
 | .agg cs,D,x=>∃ G:Array Value,x= .agg G∧aj P α B w cs D G.toList
 | .tup vs,D,x=>∃ G:Array Value,x= .tuple G∧aj P α B w vs D G.toList
 | .clo O M cap,D,x=>∃ J G:Array Value,x= .func O J G∧aj P α B w M D J.toList∧aj P α B w cap D G.toList
 | .yld i,D,x=>D i∧x= .func (.yield (α i).1) #[] #[]
def aj (P:Program) (α:Nat→Nat×Nat) (B:Nat→Prop) (w:World):List AV→(Nat→Prop)→List Value→Prop
 | [],_,G=>G= []
 | v :: vs,D,G=>∃ y zs,G=y :: zs∧v.Rel P α B w D y∧aj P α B w vs D zs
end
section
variable {P : Program} {D D' : Nat → Prop} {α α' : Nat → Nat × Nat} {B B' : Nat → Prop} {w w' : World}
structure eY (D D':Nat→Prop) (α α':Nat→Nat×Nat) (B B':Nat→Prop) (w w':World):Prop where
 le:∀ i,D i→D' i
 same:∀ i,D i→α' i=α i
 row:∀ b cs ty fr,w.heap[b]? =some (.cells cs ty fr)→¬ B b→¬ B' b∧w'.heap[b]? =some (.cells cs ty fr)
theorem eY.no (h:eY D D' α α' B B' w w'):eY bc bc α α' B B' w w':= ⟨fun _ h=>h,fun _ h=>h.elim,h.row⟩
mutual
theorem AV.Rel.mono:∀ (v:AV) (x:Value) {D D':Nat→Prop} {α α':Nat→Nat×Nat} {B B':Nat→Prop} {w w':World},eY D D' α α' B B' w w'→v.Rel P α B w D x→v.Rel P α' B' w' D' x
 | .any,x,_,_,_,_,_,_,_,_,h,k=>trivial
 | .val v,x,_,_,_,_,_,_,_,_,h,k=>k
 | .ptr i off,x,_,_,_,_,_,_,_,_,h,k=> ⟨h.le i k.1,by rw [h.same i k.1];exact k.2⟩
 | .sl b0 t i off len,x,_,_,_,_,_,_,_,_,h,k=> ⟨h.le i k.1,by rw [h.same i k.1];exact k.2⟩
 | .lst b0 t n f,x,_,_,_,_,_,_,_,_,h,k=>by
  obtain ⟨A,cap,I,J,M,U⟩:=k
  refine ⟨A,cap,I,J,M, ?_⟩
  rcases U with U | ⟨b,o,cs,ty,fr,Z,ab,aE,a1⟩
  ·exact .inl U
  ·have:=h.row b cs ty fr aE ab
   refine .inr ⟨b,o,cs,ty,fr,Z,this.1,this.2,fun j k a7 bx=> ?_⟩
   obtain ⟨y,a6,O⟩:=a1 j k a7 bx
   exact ⟨y,a6,AV.Rel.mono (f j k) y h.no O⟩
 | .eptr t n f j off,x,_,_,_,_,_,_,_,_,h,k=>by
  obtain ⟨b1,b,o,cs,ty,fr,Z,ab,aE,a1⟩:=k
  have:=h.row b cs ty fr aE ab
  refine ⟨b1,b,o,cs,ty,fr,Z,this.1,this.2,fun j k a7 bx=> ?_⟩
  obtain ⟨y,a6,O⟩:=a1 j k a7 bx
  exact ⟨y,a6,AV.Rel.mono (f j k) y h.no O⟩
 | .agg cs,x,_,_,_,_,_,_,_,_,h,k=>by
  obtain ⟨G,I,J⟩:=k
  exact ⟨G,I,aj.mono cs _ h J⟩
 | .tup cs,x,_,_,_,_,_,_,_,_,h,k=>by
  obtain ⟨G,I,J⟩:=k
  exact ⟨G,I,aj.mono cs _ h J⟩
 | .clo b3 bD cap,x,_,_,_,_,_,_,_,_,h,k=>by
  obtain ⟨b2,G,I,J,M⟩:=k
  exact ⟨b2,G,I,aj.mono bD _ h J,aj.mono cap _ h M⟩
 | .yld i,x,_,_,_,_,_,_,_,_,h,k=> ⟨h.le i k.1,by rw [h.same i k.1];exact k.2⟩
theorem aj.mono:∀ (vs:List AV) (G:List Value) {D D':Nat→Prop} {α α':Nat→Nat×Nat} {B B':Nat→Prop} {w w':World},eY D D' α α' B B' w w'→aj P α B w vs D G→aj P α' B' w' vs D' G
 | [],G,_,_,_,_,_,_,_,_,h,k=>k
 | v :: vs,G,_,_,_,_,_,_,_,_,h,k=>by
  obtain ⟨y,zs,I,J,M⟩:=k
  exact ⟨y,zs,I,AV.Rel.mono v y h J,aj.mono vs zs h M⟩
end
theorem aj.get:∀ {vs:List AV} {G:List Value},aj P α B w vs D G→∀ {i:Nat} {v:AV},vs[i]? =some v→∃ y,G[i]? =some y∧v.Rel P α B w D y
 | [],G,k,i,v,h=>by simp at h
 | u :: vs,G,k,i,v,h=>by
  obtain ⟨y,zs,rfl,I,J⟩:=k
  cases i with
  | zero=>simp only [List.getElem?_cons_zero,Option.some.injEq] at h;subst h;exact ⟨y,rfl,I⟩
  | succ i=>rw [List.getElem?_cons_succ] at h;rw [List.getElem?_cons_succ];exact aj.get J h
theorem aj.len:∀ {vs:List AV} {G:List Value},aj P α B w vs D G→G.length=vs.length
 | [],G,k=>by rw [show G= [] from k];rfl
 | u :: vs,G,k=>by
  obtain ⟨y,zs,rfl,J,I⟩:=k
  simp [aj.len I]
theorem aj.set:∀ {vs:List AV} {G:List Value},aj P α B w vs D G→∀ (i:Nat) {v:AV} {y:Value},v.Rel P α B w D y→aj P α B w (vs.set i v) D (G.set i y)
 | [],G,k,i,v,y,h=>by rw [show G= [] from k];rfl
 | u :: vs,G,k,i,v,y,h=>by
  obtain ⟨z,zs,rfl,J,I⟩:=k
  cases i with
  | zero=>exact ⟨y,zs,rfl,h,I⟩
  | succ i=>exact ⟨z,zs.set i y,rfl,J,aj.set I i h⟩
theorem aj.vals:∀ (l:List Value),aj P α B w (l.map .val) D l
 | []=>rfl
 | v :: l=> ⟨v,l,rfl,rfl,aj.vals l⟩
theorem aj.yq:∀ {l G:List Value},aj P α B w (l.map .val) D G→G=l
 | [],G,k=>k
 | v :: l,G,k=>by
  obtain ⟨z,zs,rfl,I,J⟩:=k
  rw [show z=v from I,aj.yq J]
theorem aj.append:∀ {vs us:List AV} {G zs:List Value},aj P α B w vs D G→aj P α B w us D zs→aj P α B w (vs ++ us) D (G ++ zs)
 | [],us,G,zs,k,h=>by rw [show G= [] from k];exact h
 | v :: vs,us,G,zs,k,h=>by
  obtain ⟨y,M,rfl,I,J⟩:=k
  exact ⟨y,M ++ zs,rfl,I,aj.append J h⟩
theorem aj.take:∀ {vs:List AV} {G:List Value},aj P α B w vs D G→∀ k,aj P α B w (vs.take k) D (G.take k)
 | [],G,k,j=>by rw [show G= [] from k];simp [aj]
 | v :: vs,G,k,j=>by
  obtain ⟨y,zs,rfl,I,J⟩:=k
  cases j with
  | zero=>rfl
  | succ j=>exact ⟨y,zs.take j,rfl,I,aj.take J j⟩
theorem aj.drop:∀ {vs:List AV} {G:List Value},aj P α B w vs D G→∀ k,aj P α B w (vs.drop k) D (G.drop k)
 | [],G,k,j=>by rw [show G= [] from k];simp [aj]
 | v :: vs,G,k,j=>by
  obtain ⟨y,zs,rfl,J,I⟩:=k
  cases j with
  | zero=>exact ⟨y,zs,rfl,J,I⟩
  | succ j=>exact aj.drop I j
theorem aj.nO:∀ {vs:List AV} {G:List Value},G.length=vs.length→(∀ (i:Nat) (v:AV),vs[i]? =some v→∃ y,G[i]? =some y∧v.Rel P α B w D y)→aj P α B w vs D G
 | [],G,I,h=>List.eq_nil_of_length_eq_zero I
 | u :: vs, [],I,h=>by simp at I
 | u :: vs,y :: G,I,h=>by
  obtain ⟨U,J,M⟩:=h 0 u rfl
  simp only [List.getElem?_cons_zero,Option.some.injEq] at J
  subst J
  exact ⟨y,G,rfl,M,aj.nO (by simpa using I) (fun i v O=>by have:=h (i+1) v (by simpa using O);simpa using this)⟩
end
def toAV1:Value→AV
 | .agg cs=> .agg (cs.toList.map .val)
 | v=> .val v
def toAV:Value→AV
 | .tuple vs=> .tup (vs.toList.map toAV1)
 | v=>toAV1 v
def isVal:AV→Bool
 | .val _=>true
 | _=>false
def lW:AV→Value
 | .val v=>v
 | _=>undef
def toVal:AV→Option Value
 | .val v=>some v
 | .agg cs=>bif cs.all isVal then some (.agg (cs.map lW).toArray) else none
 | _=>none
section
variable {P : Program} {D : Nat → Prop} {α : Nat → Nat × Nat} {B : Nat → Prop} {w : World}
theorem toAV1_rel (v:Value):(toAV1 v).Rel P α B w D v:=by
 cases v with
 | agg cs=>exact ⟨cs,rfl,aj.vals _⟩
 | _=>rfl
theorem toAV_rel (v:Value):(toAV v).Rel P α B w D v:=by
 cases v with
 | agg cs=>exact ⟨cs,rfl,aj.vals _⟩
 | tuple vs=>
  refine ⟨vs,rfl, ?_⟩
  generalize vs.toList=l
  induction l with
  | nil=>rfl
  | cons v l G=>exact ⟨v,l,rfl,toAV1_rel v,G⟩
 | _=>rfl
theorem aj.wI:∀ {cs:List AV} {G:List Value},cs.all isVal=true→aj P α B w cs D G→G=cs.map lW
 | [],G,h,k=>k
 | c :: cs,G,h,k=>by
  obtain ⟨y,zs,rfl,I,J⟩:=k
  rw [List.all_cons,Bool.and_eq_true] at h
  rw [List.map_cons,aj.wI h.2 J]
  cases c with
  | val v=>rw [show y=v from I];rfl
  | _=>simp [isVal] at h
theorem toVal_rel {u:AV} {x v:Value} (h:toVal u=some v) (k:u.Rel P α B w D x):x=v:=by
 cases u with
 | val v=>cases h;exact k
 | agg cs=>
  simp only [toVal] at h
  cases G:cs.all isVal with
  | false=>rw [G] at h;cases h
  | true=>
   rw [G] at h
   cases h
   obtain ⟨J,rfl,I⟩:=k
   rw [← aj.wI G I]
 | _=>cases h
end
inductive an where
 | cells (l:List AV)
 | ints (k:IntKind) (zs:List Int)
 | vals (vs:List Value)
 deriving Inhabited
def an.aW:an→List AV
 | .cells l=>l
 | .ints k zs=>zs.map fun z=> .val (.int k z)
 | .vals vs=>vs.map .val
def an.len:an→Nat
 | .cells l=>l.length
 | .ints _ zs=>zs.length
 | .vals vs=>vs.length
theorem an.eZ (c:an):c.aW.length=c.len:=by cases c <;> simp [an.aW,an.len]
inductive sk where
 | live | froz | dead
 deriving DecidableEq,Inhabited
inductive Jump where
 | ret
 | exit (id:Nat)
def Jump.code:Jump→Code
 | .ret=> .ret
 | .exit id=> .exit id
structure Rec where
 T:List AV
 params:Array Tmp
 g:FuncId
 path:List Bool
 st:LoopState
 da:Option Jump
inductive bI where
 | row (c:an) (ty:TypeId) (st:sk)
 | loop (r:Rec)
def bI.isLive:bI→Bool
 | .row _ _ .live=>true
 | .loop _=>true
 | _=>false
def bI.iG:bI→Bool
 | .row _ _ .froz=>true
 | _=>false
abbrev Hp:=List bI
abbrev Hf:=Nat→Option bI
def child:Bool→Code→Option Code
 | false, .seq a _=>some a
 | true, .seq _ b=>some b
 | false, .cond _ a _=>some a
 | true, .cond _ _ b=>some b
 | false, .block _ a=>some a
 | false, .loop a=>some a
 | false, .scope a=>some a
 | false, .rangeFunc _ _ a _=>some a
 | true, .rangeFunc _ _ _ b=>some b
 | _,_=>none
def aI (P:Program) (g:FuncId):List Bool→Option Code
 | []=>(P.funcs[g]?).bind (·.body)
 | b :: p=>(aI P g p).bind (child b)
def aN (D:Nat→Prop) (α:Nat→Nat×Nat) (h:Hf) (b:Nat):Prop:=∃ i k,D i∧h i=some k∧k.isLive=true∧(α i).1=b
def Own (B0 D:Nat→Prop) (α:Nat→Nat×Nat) (h:Hf) (b:Nat):Prop:=B0 b∨aN D α h b
def cO (P:Program) (α:Nat→Nat×Nat) (B:Nat→Prop) (w:World) (D:Nat→Prop) (k:bI) (a:Nat×Nat):Prop:=
 match k with
 | .row c ty st=>st= .dead∨∃ cs fr,w.heap[a.1]? =some (.cells cs ty fr)∧cs.size=a.2∧(st= .live→∀ i,i < a.2→¬ (fr.1≤i∧i < fr.2))∧c.len≤a.2∧aj P α B w c.aW D (cs.toList.take c.len)
 | .loop r=>∃ L,w.heap[a.1]? =some (.loop L)∧L.state=r.st∧L.pending=r.da.map Jump.code∧L.params=r.params∧(∃ f ps,aI P r.g r.path=some (.rangeFunc f ps L.assign L.body))∧aj P α B w r.T D L.tmps.toList
structure bm (B:Nat) (w w':World):Prop extends Below B w w' where
 dr:w.drawn≤w'.drawn
theorem bm.refl (B:Nat) (w:World):bm B w w:= ⟨Below.refl B w,Nat.le_refl _⟩
theorem bm.trans {B:Nat} {a b c:World} (h:bm B a b) (k:bm B b c):bm B a c:= ⟨h.toBelow.trans k.toBelow,Nat.le_trans h.dr k.dr⟩
theorem bm.mono {B B':Nat} {w w':World} (h:bm B w w') (G:B'≤B):bm B' w w':= ⟨h.toBelow.mono G,h.dr⟩
theorem bm.drew {B:Nat} {a w:World} (h:bm B a w):bm B a w.drew:= ⟨h.toBelow.drew,Nat.le_trans h.dr (Nat.le_succ _)⟩
theorem bm.alloc {B:Nat} {a w:World} (h:bm B a w) (G:B≤w.heap.size) (o:Obj):bm B a (w.alloc o):= ⟨h.toBelow.alloc G o,h.dr⟩
theorem bm.setCell {B:Nat} {a w:World} (h:bm B a w) {p:Addr} (G:B≤p.block) (u:Value):bm B a (w.setCell p u):= ⟨h.toBelow.setCell G u,h.dr⟩
structure Ok (P:Program) (B0:Nat→Prop) (w0:World) (D:Nat→Prop) (α:Nat→Nat×Nat) (h:Hf) (w:World):Prop where
 lt:∀ i,D i→∃ k,h i=some k
 below:bm w0.heap.size w0 w
 cN:∀ b,B0 b→b < w.heap.size∧∀ ds,w.heap[b]?≠some (.deferred ds)
 sep:∀ b,B0 b→¬ aN D α h b
 fresh:∀ i,D i→w0.heap.size≤(α i).1∧(α i).1 < w.heap.size
 inj:∀ i j k l,D i→D j→h i=some k→h j=some l→k.isLive=true→l.isLive=true→(α i).1=(α j).1→i=j
 db:∀ i k,D i→h i=some k→k.iG=true→¬ Own B0 D α h (α i).1
 cJ:∀ i k,D i→h i=some k→cO P α (Own B0 D α h) w D k (α i)
structure bA (D D':Nat→Prop) (α α':Nat→Nat×Nat) (C C':Nat→Prop) (w w':World):Prop where
 le:∀ i,D i→D' i
 same:∀ i,D i→α' i=α i
 block:∀ b o,w.heap[b]? =some o→¬ C b→¬ C' b∧w'.heap[b]? =some o
section
variable {P : Program} {D D' D'' : Nat → Prop} {α α' α'' : Nat → Nat × Nat} {C C' C'' : Nat → Prop} {h h' : Hf} {w w' w'' : World}
theorem bA.keeps (B0:Nat→Prop) (k:bA D D' α α' (aN D α h) (aN D' α' h') w w'):eY D D' α α' (Own B0 D α h) (Own B0 D' α' h') w w':=
 ⟨k.le,k.same,fun b cs ty fr J G=>have I:=k.block b _ J (fun h=>G (.inr h)); ⟨fun h=>h.elim (fun h=>G (.inl h)) I.1,I.2⟩⟩
theorem bA.refl (D:Nat→Prop) (α:Nat→Nat×Nat) (C:Nat→Prop) (w:World):bA D D α α C C w w:= ⟨fun _ h=>h,fun _ _=>rfl,fun _ _ h k=> ⟨k,h⟩⟩
theorem bA.trans (h:bA D D' α α' C C' w w') (k:bA D' D'' α' α'' C' C'' w' w''):bA D D'' α α'' C C'' w w'':=
 ⟨fun i hi=>k.le i (h.le i hi),fun i hi=>(k.same i (h.le i hi)).trans (h.same i hi),fun b o I J=>have G:=h.block b o I J;k.block b o G.2 G.1⟩
end
structure Fr where
 n:Nat
 D:Nat→Prop
 α:Nat→Nat×Nat
 C:Nat→Prop
 w:World
def Marks (n:Nat) (w:World) (ds:List Deferred):Prop:=n≤w.heap.size∧∃ G:List Nat,ds=G.map (fun r=> { target:= .collected r,args:= #[] })∧G.Nodup∧∀ r ∈ G,n≤r∧w.heap[r]? =some (.deferred (some []))
def cF (P:Program) (B0:Nat→Prop) (w0:World) (F:Fr) (T:List AV) (h:Hf) (a:Act) (w:World):Prop:=
 Marks F.w.heap.size w a.defers∧∃ D α,Ok P B0 w0 D α h w∧aj P α (Own B0 D α h) w T D a.tmps.toList∧bA F.D D F.α α F.C (aN D α h) F.w w∧∀ i,D i→i < F.n→F.D i
section
variable {P : Program} {B0 : Nat → Prop} {w0 : World} {D D' : Nat → Prop} {α α' : Nat → Nat × Nat} {h h' : Hf} {w w' : World}
theorem Dd (U:Ok P B0 w0 D α h w) {r:Nat} {ds:Option (List Deferred)} (I:w.heap[r]? =some (.deferred ds)):¬ aN D α h r:=by
 rintro ⟨i,k,J,M,O,rfl⟩
 have:=U.cJ i k J M
 cases k with
 | row c ty st=>
  rcases this with rfl | ⟨cs,fr,G,_⟩
  ·cases O
  ·rw [I] at G;cases G
 | loop L=>obtain ⟨Z,G,_⟩:=this;rw [I] at G;cases G
theorem KI (U:Ok P B0 w0 D α h w) (M:Ok P B0 w0 D' α' h' w') (G:bA D D' α α' (aN D α h) (aN D' α' h') w w'):w.heap.size≤w'.heap.size:=by
 refine Nat.le_of_not_lt fun O=> ?_
 by_cases I:aN D α h w'.heap.size
 ·obtain ⟨i,k,hi,_,_,e⟩:=I
  have:=(M.fresh i (G.le i hi)).2
  rw [G.same i hi] at this
  omega
 ·have J:=(G.block _ _ (Array.getElem?_eq_getElem O) I).2
  have:=(Array.getElem?_eq_some_iff.1 J).1
  omega
theorem Marks.mono {n:Nat} {ds:List Deferred} (ab:Marks n w ds) (J:Ok P B0 w0 D α h w) (aE:Ok P B0 w0 D' α' h' w') (M:bA D D' α α' (aN D α h) (aN D' α' h') w w'):Marks n w' ds:=by
 obtain ⟨O,a1,U,Z,G⟩:=ab
 exact ⟨Nat.le_trans O (KI J aE M),a1,U,Z,fun r I=> ⟨(G r I).1,(M.block r _ (G r I).2 (Dd J (G r I).2)).2⟩⟩
end
theorem ad6 {P : Program} {w : World} {tp ti ty e : TypeId} {b : Nat} {kn : IntKind} {z : Int} {n : Nat} {s : ByteArray} (Z : P.underlying tp = some (.pointer e)) (ab : ¬ z < 0) (I : z ≤ 9223372036854775807) (aE : z ≠ 0) (U : w.shape? b = some (e, n)) (G : P.cellsOf e = 1) (O : liesAt P P.depth e n 0 e z.toNat = true) (M : (loadBytes ⟨b, 0, none⟩ .empty z.toNat).run P w = .ok s w) :
    (Builtin.unsafeString_ #[tp, ti] ty #[.pointer (some ⟨b, 0, none⟩), .int kn z]).run P w = .ok (.string s) (w.freeze ⟨b, 0, none⟩ z.toNat) := by
  have J : Builtin.unsafeString_ #[tp, ti] ty #[.pointer (some ⟨b, 0, none⟩), .int kn z] =
                    (do
                      let n ← asInt (.int kn z)
                      if n < 0 then runtimePanic (.error "unsafe.String: len out of range")
                      if n > IntKind.i64.max then unsupported (.unsafePointer "String: a length above the largest int")
                      if n = 0 then pure (.string .empty)
                      else if ← variablesAt ⟨b, 0, none⟩ (← elemOf tp) n.toNat then do
                        let s ← loadBytes ⟨b, 0, none⟩ .empty n.toNat
                        freeze ⟨b, 0, none⟩ n.toNat
                        pure (.string s)
                      else unsupported (.unsafePointer "String: not so many bytes at ptr")) := rfl
  rw [J]
  have a1 : ¬ z > IntKind.i64.max := by have : IntKind.i64.max = 9223372036854775807 := rfl; omega
  simp [asInt, asIntOf, ab, aE, elemOf, run_underlying Z, variablesAt, U, G, O, M, freeze, Sem.run, Result.andThen]
  try exact I
end Go.V
noncomputable section
namespace Go.V
open Go Go.RowKit
def K7:Int→Int→Bool
 | .ofNat m, .ofNat n=>Nat.ble m n
 | .negSucc _, .ofNat _=>true
 | .ofNat _, .negSucc _=>false
 | .negSucc m, .negSucc n=>Nat.ble n m
theorem Xq (a b : Int) : K7 a b = true ↔ a ≤ b := by
  cases a with
  | ofNat m => cases b with
    | ofNat n => show Nat.ble m n = true ↔ (m : Int) ≤ (n : Int); rw [Nat.ble_eq]; omega
    | negSucc n => show false = true ↔ (m : Int) ≤ Int.negSucc n; constructor
                   · intro h; cases h
                   · intro h; omega
  | negSucc m => cases b with
    | ofNat n => show true = true ↔ Int.negSucc m ≤ (n : Int); constructor
                 · intro _; omega
                 · intro _; rfl
    | negSucc n => show Nat.ble n m = true ↔ Int.negSucc m ≤ Int.negSucc n; rw [Nat.ble_eq]; omega
def Lz:Int→Int→Bool
 | .ofNat m, .ofNat n=>Nat.ble (m+1) n
 | .negSucc _, .ofNat _=>true
 | .ofNat _, .negSucc _=>false
 | .negSucc m, .negSucc n=>Nat.ble (n+1) m
theorem YR (a b : Int) : Lz a b = true ↔ a < b := by
  cases a with
  | ofNat m => cases b with
    | ofNat n => show Nat.ble (m + 1) n = true ↔ (m : Int) < (n : Int); rw [Nat.ble_eq]; omega
    | negSucc n => show false = true ↔ (m : Int) < Int.negSucc n; constructor
                   · intro h; cases h
                   · intro h; omega
  | negSucc m => cases b with
    | ofNat n => show true = true ↔ Int.negSucc m < (n : Int); constructor
                 · intro _; omega
                 · intro _; rfl
    | negSucc n => show Nat.ble (n + 1) m = true ↔ Int.negSucc m < Int.negSucc n; rw [Nat.ble_eq]; omega
instance (priority:=2000) aer (a b:Int):Decidable (a≤b):=decidable_of_bool (K7 a b) (Xq a b)
instance (priority:=2000) aes (a b:Int):Decidable (a < b):=decidable_of_bool (Lz a b) (YR a b)
def ah (k:IntKind) (z:Int):Bool:=decide (k.min≤z)&&decide (z≤k.max)
def aF (a b:ByteArray):Bool:=a.data.toList==b.data.toList
def strLt (a b:ByteArray):Bool:=Op.bytesLess a.data.toList b.data.toList
def rZ (a b:ByteArray):ByteArray:= ⟨⟨a.data.toList ++ b.data.toList⟩⟩
def dP (s:ByteArray) (l h:Nat):ByteArray:= ⟨⟨(s.data.toList.drop l).take (h - l)⟩⟩
def aT (s:ByteArray) (i:Nat):Int:=((s.data.toList.getD i 0).toNat:Int)
def dv (s:ByteArray):List Int:=s.data.toList.map fun b=>(b.toNat:Int)
def ofBytes (zs:List Int):ByteArray:= ⟨⟨zs.map fun z=>UInt8.ofNat z.toNat⟩⟩
def b9 (G:BinOp) (k:IntKind) (x y:Int):Int:=
 k.wrap ((match G with
  | .and=>BitVec.ofInt k.bits x &&& BitVec.ofInt k.bits y
  | .or=>BitVec.ofInt k.bits x ||| BitVec.ofInt k.bits y
  | .xor=>BitVec.ofInt k.bits x ^^^ BitVec.ofInt k.bits y
  | _=>BitVec.ofInt k.bits x &&& ~~~BitVec.ofInt k.bits y).toNat:Int)
def intKind (P:Program) (t:TypeId):Option IntKind:=match P.underlying t with | some (.int k)=>some k | _=>none
def ky (P:Program) (t:TypeId):Option TypeId:=match P.underlying t with | some (.slice e)=>some e | _=>none
section
variable {R : Type}
def an.get (c:an) (o:Nat) (k:AV→Option R):Option R:=
 match c with
 | .cells l=>match l[o]? with | some v=>k v | none=>none
 | .ints G zs=>bif decide (o < zs.length) then k (.val (.int G (zs.getD o 0))) else none
 | .vals vs=>bif decide (o < vs.length) then k (.val (vs.getD o undef)) else none
def an.CC (c:an):Nat→Nat→(List AV→Option R)→Option R
 | 0,_,k=>k []
 | n+1,o,k=>c.get o fun v=>c.CC n (o+1) fun vs=>k (v :: vs)
def aS:AV→Bool
 | .val v=>v.oneCell'
 | .agg _=>false
 | .tup _=>false
 | .any=>false
 | _=>true
def an.put (c:an) (o:Nat) (l:List AV) (k:an→Option R):Option R:=
 bif l.all aS then
  match c with
  | .cells cN=>
   bif decide (o+l.length≤cN.length) then
    match l with
    | [v]=>k (.cells (cN.set o v))
    | _=>k (.cells (cN.take o ++ l ++ cN.drop (o+l.length)))
   else none
  | .ints G zs=>
   match l with
   | [.val (.int I z)]=>bif decide (G=I) then bif decide (o < zs.length) then k (.ints G (zs.set o z)) else none else none
   | _=>none
  | .vals vs=>
   match l with
   | [.val v]=>bif decide (o < vs.length) then k (.vals (vs.set o v)) else none
   | l=>bif l.all isVal&&decide (o+l.length≤vs.length) then k (.vals (vs.take o ++ l.map lW ++ vs.drop (o+l.length))) else none
 else none
end
def an.sub (c:an) (o m:Nat):an:=
 match c with
 | .cells l=> .cells ((l.drop o).take m)
 | .ints k zs=> .ints k ((zs.drop o).take m)
 | .vals vs=> .vals ((vs.drop o).take m)
def B3 (k:IntKind):AV→Option Int
 | .val (.int G z)=>bif decide (G=k) then some z else none
 | _=>none
def mj (k:IntKind):List AV→Option (List Int)
 | []=>some []
 | v :: l=>match B3 k v with
  | some z=>match mj k l with | some zs=>some (z :: zs) | none=>none
  | none=>none
def an.tN (k:IntKind):an→Option (List Int)
 | .cells l=>mj k l
 | .ints G zs=>bif decide (G=k) then some zs else none
 | .vals vs=>mj k (vs.map .val)
def an.app (J:Option IntKind) (a:an) (n:Nat) (b:an):Option an:=
 match J with
 | some k=>match a.tN k with
  | some G=>match b.tN k with | some I=>some (.ints k (G.take n ++ I)) | none=>none
  | none=>none
 | none=>match a,b with
  | .vals G, .vals I=>some (.vals (G.take n ++ I))
  | .cells [], .vals I=>some (.vals I)
  | .vals G, .cells l=>bif l.all isVal then some (.vals (G.take n ++ l.map lW)) else none
  | a,b=>some (.cells (a.aW.take n ++ b.aW))
def sM:AV→Option (List AV)
 | .val v=>some (v.cells.toList.map .val)
 | .agg cs=>some cs
 | .tup _=>none
 | .any=>none
 | v=>some [v]
def gJ:Value→AV:=toAV1
def al (T:List AV):Nat→AV:=List.rec (motive:=fun _=>Nat→AV) (fun _=> .any) (fun a _ G n=>Nat.rec (motive:=fun _=>AV) a (fun m _=>G m) n) T
def C1 (T:List AV):Nat→AV→List AV:=List.rec (motive:=fun _=>Nat→AV→List AV) (fun _ _=> []) (fun a l G n v=>Nat.rec (motive:=fun _=>List AV) (v :: l) (fun m _=>a :: G m v) n) T
theorem ye:∀ (T:List AV) (t:Nat),al T t=(T[t]?).getD .any
 | [],t=>rfl
 | a :: l,0=>rfl
 | a :: l,t+1=>by rw [List.getElem?_cons_succ];exact ye l t
theorem C2:∀ (T:List AV) (t:Nat) (v:AV),C1 T t v=T.set t v
 | [],t,v=>rfl
 | a :: l,0,v=>rfl
 | a :: l,t+1,v=>by rw [List.set_cons_succ,← C2 l t v];rfl
def aB (T:List AV):Operand→AV
 | .tmp t=>al T t
 | .const v=>gJ v
 | .global g=> .val (.pointer (some ⟨g,0,none⟩))
 | .func f=> .val (.func (.func f) #[] #[])
def rowOf (H:Hp) (i:Nat):Option (an×TypeId×sk):=match H[i]? with | some (.row c ty st)=>some (c,ty,st) | _=>none
section
variable {R : Type} (P : Program)
def o6 (H:Hp) (t:TypeId) (p:AV) (k:AV→Option R):Option R:=
 match p with
 | .ptr i off=>
  match H[i]? with
  | some (.row c _ st)=>bif st== .dead then none else
   bif dU P t then c.CC (P.cellsOf t) off fun vs=>k (.agg vs)
   else bif (P.underlying t).isSome then c.get off k else none
  | _=>none
 | .eptr G n f j off=>
  bif dU P t then bif decide (off+P.cellsOf t≤P.cellsOf G) then k (.agg ((List.range (P.cellsOf t)).map fun q=>f j (off+q))) else none
  else bif (P.underlying t).isSome then bif decide (off < P.cellsOf G) then k (f j off) else none else none
 | _=>none
def E8 (lo:Nat) (H:Hp) (t:TypeId) (p v:AV) (k:Hp→Option R):Option R:=
 match p with
 | .ptr i off=>bif decide (i < lo) then none else
  match H[i]?,sM v with
  | some (.row c ty .live),some l=>bif (l.length==P.cellsOf t&&(P.info? t).isSome) then c.put off l fun c'=>k (H.set i (.row c' ty .live)) else none
  | _,_=>none
 | _=>none
def Km (s f:Nat) (v:AV):Option AV:=
 match P.underlying s with
 | some (.struct G)=>
  match G[f]? with
  | some fd=>
   bif P.cellsOf fd.type==0 then none else
   match v with
   | .ptr i off=>some (.ptr i (off+fd.offset))
   | .eptr t n g j off=>some (.eptr t n g j (off+fd.offset))
   | _=>none
  | none=>none
 | _=>none
def uh (t:TypeId) (cs:List AV) (off:Nat) (k:AV→Option R):Option R:=
 bif dU P t then k (.agg ((cs.drop off).take (P.cellsOf t)))
 else bif (P.underlying t).isSome then match cs[off]? with | some v=>k v | none=>none else none
def Cq (s f:Nat) (v:AV) (k:AV→Option R):Option R:=
 match P.underlying s,v with
 | some (.struct G), .agg cs=>match G[f]? with
  | some fd=>uh P fd.type cs fd.offset k
  | none=>none
 | _,_=>none
def oC (k:IntKind) (z:Int) (K:AV→Option R):Option R:=
 bif k.signed then bif ah k z then K (.val (.int k z)) else none else K (.val (.int k (k.wrap z)))
def CL (G:BinOp) (k:IntKind) (x y:Int) (K:AV→Option R):Option R:=
 match G with
 | .add=>oC k (x+y) K
 | .sub=>oC k (x - y) K
 | .mul=>oC k (x*y) K
 | .quo=>bif decide (y=0) then none else oC k (x.tdiv y) K
 | .rem=>bif decide (y=0) then none else K (.val (.int k (x.tmod y)))
 | .and=>K (.val (.int k (b9 .and k x y)))
 | .or=>K (.val (.int k (b9 .or k x y)))
 | .xor=>K (.val (.int k (b9 .xor k x y)))
 | .andNot=>K (.val (.int k (b9 .andNot k x y)))
 | .eql=>K (.val (.bool (decide (x=y))))
 | .neq=>K (.val (.bool (!decide (x=y))))
 | .lss=>K (.val (.bool (decide (x < y))))
 | .leq=>K (.val (.bool (decide (x≤y))))
 | .gtr=>K (.val (.bool (decide (y < x))))
 | .geq=>K (.val (.bool (decide (y≤x))))
 | _=>none
def yZ (G:BinOp) (k:IntKind) (x y:Int) (K:AV→Option R):Option R:=
 bif decide (y < 0) then none else
 match G with
 | .shl=>oC k (x*2 ^ (min y.toNat k.bits)) K
 | .shr=>K (.val (.int k (x.fdiv (2 ^ (min y.toNat k.bits)))))
 | _=>none
def Fa (G:BinOp) (x y:ByteArray) (K:AV→Option R):Option R:=
 match G with
 | .add=>bif decide (x.size+y.size≤9223372036854775807) then K (.val (.string (rZ x y))) else none
 | .eql=>K (.val (.bool (aF x y)))
 | .neq=>K (.val (.bool (!aF x y)))
 | .lss=>K (.val (.bool (strLt x y)))
 | .leq=>K (.val (.bool (strLt x y ||aF x y)))
 | .gtr=>K (.val (.bool (!(strLt x y ||aF x y))))
 | .geq=>K (.val (.bool (!strLt x y)))
 | _=>none
def rA (t:TypeId) (G:List Value) (off:Nat):Option Value:=bif dU P t then some (.agg ((G.drop off).take (P.cellsOf t)).toArray) else bif (P.underlying t).isSome then G[off]? else none
def oN (E:TypeId→Value→Value→Option Bool) (G I:List Value):List Field→Option Bool
 | []=>some true
 | f :: J => bif f.name == "_" then oN E G I J else
  match rA P f.type G f.offset,rA P f.type I f.offset with
  | some a,some b=>match E f.type a b with
   | some q=>match oN E G I J with
    | some q'=>some (q&&q')
    | none=>none
   | none=>none
  | _,_=>none
def jm:Nat→TypeId→Value→Value→Option Bool
 | 0,_,_,_=>none
 | d+1,t,x,y=>
  match P.underlying t,x,y with
  | some .bool, .bool a, .bool b=>some (a==b)
  | some (.int _), .int k a, .int I b=>bif decide (k=I) then some (decide (a=b)) else none
  | some .string, .string a, .string b=>some (aF a b)
  | some (.struct G), .agg J, .agg M=>bif P.stoodInHeld t then none else oN P (jm d) J.toList M.toList G.toList
  | some (.pointer _), .pointer none, .pointer b=>some b.isNone
  | some (.slice _), .slice none _ _, .slice b _ _=>some b.isNone
  | some (.func _ _ _), .nilFunc, .nilFunc=>some true
  | some (.func _ _ _), .nilFunc, .func _ _ _=>some false
  | some (.func _ _ _), .func _ _ _, .nilFunc=>some false
  | _,_,_=>none
def dh:Value→Bool
 | .bool _=>true
 | _=>false
def bP:Value→Bool
 | .string _=>true
 | _=>false
def ar:Value→Bool
 | .bool b=>b
 | _=>false
def ag:Value→ByteArray
 | .string s=>s
 | _=>ByteArray.mk #[]
def nL:Value→Bool
 | .nilIface=>false
 | _=>true
def oM (t:TypeId) (x y:AV):Option Bool:=
 match toVal x,toVal y with
 | some a,some b=>bif nL a&&nL b&& !(P.eqGuardType P.depth t) then jm P 20 t a b else none
 | _,_=>match P.underlying t,x,y with
  | some (.slice _), .sl _ _ _ _ _, .val (.slice none _ _)=>some false
  | some (.slice _), .val (.slice none _ _), .sl _ _ _ _ _=>some false
  | some (.func _ _ _), .clo .., .val .nilFunc=>some false
  | some (.func _ _ _), .val .nilFunc, .clo .. =>some false
  | some (.pointer _), .ptr .., .val (.pointer none)=>some false
  | some (.pointer _), .val (.pointer none), .ptr .. =>some false
  | some (.slice _), .lst _ _ n _, .val (.slice none _ _)=>bif decide (0 < n) then some false else none
  | _,_,_=>none
def tD (E:TypeId→Value→Value→(Bool→Option R)→Option R) (G I:List Value):List Field→(Bool→Option R)→Option R
 | [],K=>K true
 | f :: J, K => bif f.name == "_" then tD E G I J K else
  match rA P f.type G f.offset,rA P f.type I f.offset with
  | some a,some b=>E f.type a b fun q=>tD E G I J fun q'=>K (q&&q')
  | _,_=>none
def xK:Nat→TypeId→Value→Value→(Bool→Option R)→Option R
 | 0,_,_,_,_=>none
 | d+1,t,x,y,K=>
  match P.underlying t with
  | some .bool=>bif dh x&&dh y then K (ar x==ar y) else none
  | some .string=>bif bP x&&bP y then K (aF (ag x) (ag y)) else none
  | some (.struct G)=>match x,y with
   | .agg I, .agg J=>bif P.stoodInHeld t then none else tD P (xK d) I.toList J.toList G.toList K
   | _,_=>none
  | _=>match jm P (d+1) t x y with | some q=>K q | none=>none
def Ci (t:TypeId) (x y:AV) (K:Bool→Option R):Option R:=
 match toVal x,toVal y with
 | some a,some b=>bif nL a&&nL b&& !(P.eqGuardType P.depth t) then xK P 20 t a b K else none
 | _,_=>match P.underlying t,x,y with
  | some (.slice _), .lst _ _ n _, .val (.slice none _ _)=>bif decide (0 < n) then K false else none
  | _,_,_=>match oM P t x y with | some q=>K q | none=>none
def Dh (T:List AV) (o:Oper):Option AV:=
 bif o.op.operands.toList.all (fun x=>(toVal (aB T x)).isSome) then
  match o.op with
  | .select .. =>none
  | _=>match mT P (execOp (fun x=>((toVal (aB T x)).getD undef)) o) with
   | some (.value v)=>some (toAV v)
   | _=>none
 else none
def ai (sz m:Nat) (f:Nat→Nat→AV):List Value:=(List.range (m*sz)).map fun i=>lW (f (i / sz) (i % sz))
def aw (sz m:Nat) (f:Nat→Nat→AV):Bool:=(List.range (m*sz)).all fun i=>isVal (f (i / sz) (i % sz))
def vw (k:Option IntKind) (sz n:Nat) (f:Nat→Nat→AV):Option an:=
 match k with
 | some k=>bif sz==1 then match mj k ((List.range n).map fun j=>f j 0) with | some zs=>some (.ints k zs) | none=>none else none
 | none=>bif aw sz n f then some (.vals (ai sz n f)) else none
def yU (k:Option IntKind) (sz n:Nat) (f:Nat→Nat→AV) (K:an→Option R):Option R:=
 match k with
 | some k=>bif sz==1 then match mj k ((List.range n).map fun j=>f j 0) with | some zs=>K (.ints k zs) | none=>none else none
 | none=>bif aw sz n f then K (.vals (ai sz n f)) else none
def rT (H:Hp) (t:TypeId) (v:AV) (k:an→Nat→Option R):Option R:=
 match v with
 | .val (.slice none 0 0)=>k (.cells []) 0
 | .val (.string s)=>bif P.cellsOf t==1 then k (.ints .u8 (dv s)) s.size else none
 | .sl _ G i off len=>bif t==G then
   match H[i]? with
   | some (.row c _ st)=>bif st== .dead then none else bif decide (off+len*P.cellsOf t≤c.len) then k (c.sub off (len*P.cellsOf t)) len else none
   | _=>none
  else none
 | .lst _ G n f=>bif t==G then yU (intKind P t) (P.cellsOf t) n f fun c=>k c n else none
 | _=>none
def Lc (t:TypeId) (v:AV):Option AV:=
 match v with
 | .sl _ G _ _ n=>bif ky P t==some G then some (.val (.int .i64 n)) else none
 | .lst _ G n _=>bif ky P t==some G then some (.val (.int .i64 n)) else none
 | _=>none
def wR:Option AV→Option (Option Int)
 | none=>some none
 | some (.val (.int _ z))=>some (some z)
 | _=>none
def mc (n:Nat) (lo hi:Option AV) (k:Nat→Nat→Option R):Option R:=
 match wR lo,wR hi with
 | some none,some none=>k 0 n
 | some none,some (some h)=>bif decide (0≤h)&&decide (h≤n) then k 0 h.toNat else none
 | some (some l),some none=>bif decide (0≤l)&&decide (l≤n) then k l.toNat n else none
 | some (some l),some (some h)=>bif decide (0≤l)&&decide (l≤h)&&decide (h≤n) then k l.toNat h.toNat else none
 | _,_=>none
end
end Go.V
end
noncomputable section
namespace Go.V
open Go Go.RowKit
inductive Ex where
 | normal
 | exit (id:Nat)
 | ret
def Ex.to:Ex→Exit
 | .normal=> .normal
 | .exit id=> .exit id
 | .ret=> .ret
structure Env where
 C:FuncId→List AV→Option (Bool×AV)
 K:FuncId→Bool
 L:FuncId→Nat→List Bool→Option (List Nat×(List AV→Hp→Option (Bool×Ex×List AV×Hp)))
section
variable {R : Type} (P : Program)
def fQ (g:FuncId):Bool:=
 match P.funcs[g]? with
 | some G => G.body.isSome && !(G.name == "runtime.NumGoroutine")
 | none=>false
def rI:AV→Bool
 | .val _=>true
 | .agg cs=>cs.all isVal
 | _=>false
def yx:AV→Bool
 | .tup vs=>vs.all rI
 | v=>rI v
def dL (c:an) (I:List AV) (off sz:Nat):Nat→Nat→AV:=
 match c with
 | .cells _=>fun j q=>I.getD (off+j*sz+q) .any
 | .ints G zs=>bif sz==1 then fun j _=> .val (.int G ((zs.drop off).getD j 0)) else fun j q=> .val (.int G (zs.getD (off+j*sz+q) 0))
 | .vals vs=>fun j q=> .val (vs.getD (off+j*sz+q) undef)
def ml (f:AV→(AV→Option R)→Option R):List AV→(List AV→Option R)→Option R
 | [],k=>k []
 | v :: l,k=>f v fun I=>ml f l fun G=>k (I :: G)
def kH (H:Hp):Nat→AV→(AV→Option R)→Option R
 | 0,_,_=>none
 | d+1,v,k=>
  match v with
  | .val x=>k (.val x)
  | .sl fl t i off len=>match H[i]? with
   | some (.row c _ st)=>bif st== .dead then none else bif decide (off+len*P.cellsOf t≤c.len) then
     match c with
     | .cells l=>ml (kH H d) l fun O=>k (.lst fl t len (dL c O off (P.cellsOf t)))
     | c=>k (.lst fl t len (dL c [] off (P.cellsOf t)))
    else none
   | _=>none
  | .lst .. =>k v
  | .eptr .. =>k v
  | .agg cs=>ml (kH H d) cs fun G=>k (.agg G)
  | .tup cs=>ml (kH H d) cs fun G=>k (.tup G)
  | .clo M a b=>ml (kH H d) a fun I=>ml (kH H d) b fun J=>k (.clo M I J)
  | _=>none
def an.zi:an→List AV
 | .cells l=>l
 | _=> []
def cD (H:Hp):Nat→List AV→List Nat
 | 0,_=> []
 | d+1,l=>l.flatMap fun v=>match v with
  | .sl _ _ i _ _=>match H[i]? with
   | some (.row c _ .live)=>i :: cD H d c.zi
   | some (.row c _ .froz)=>cD H d c.zi
   | _=> []
  | .agg cs=>cD H d cs
  | .tup cs=>cD H d cs
  | .clo _ a b=>cD H d a ++ cD H d b
  | _=> []
def gN (H:Hp) (i:Nat):Hp:=match H[i]? with | some (.row c ty .live)=>H.set i (.row c ty .froz) | _=>H
def gO (ids:List Nat) (H:Hp):Hp:=ids.foldl gN H
def owns:AV→Bool
 | .val _=>false
 | .lst .. =>false
 | .eptr .. =>false
 | .agg cs=> !(cs.all fun c=>match c with | .val _=>true | .lst .. =>true | _=>false)
 | _=>true
def nJ (G:Nat→Option (Nat×Nat)) (cells:List AV):List (Nat×AV)→Option (List AV)
 | []=>some cells
 | (i,v) :: rest=>
  match G i,sM v with
  | some (off,sz),some l=>bif (l.length==sz&&decide (off+l.length≤cells.length)&&l.all aS) then nJ G (cells.take off ++ l ++ cells.drop (off+l.length)) rest else none
  | _,_=>none
def qN (G:Nat→Option (Nat×Nat)) (cells:List AV):List (Nat×AV)→(List AV→Option R)→Option R
 | [],k=>k cells
 | (i,v) :: rest,k=>
  match G i,sM v with
  | some (off,sz),some l=>bif (l.length==sz&&decide (off+l.length≤cells.length)&&l.all aS) then qN G (cells.take off ++ l ++ cells.drop (off+l.length)) rest k else none
  | _,_=>none
def zeroCells (t:TypeId):Option (List AV):=match mT P (zeroValue t) with | some z=>some (z.cells.toList.map .val) | none=>none
def mG (G:Option IntKind) (l:List AV):an:=
 match G with
 | some k=>match mj k l with | some zs=> .ints k zs | none=> .cells l
 | none=> .cells l
def aQ (n e:Nat):Bool:=decide (n*P.bytesOf e≤140737488355328)&&decide (n≤9223372036854775807)
def an.bJ:an→Bool
 | .cells l=>l.all aS
 | .ints _ _=>true
 | .vals vs=>vs.all (·.oneCell')
def qf (e:TypeId):Bool:=match zeroCells P e with | some z=>z.length==P.cellsOf e | none=>false
def mb (tx:TypeId):Bool:=match P.underlying tx with | some (.slice _)=>true | some .string=>true | _=>false
def IW (lo:Nat) (H:Hp) (e:TypeId) (s:AV) (fl:Bool) (i off len:Nat) (cx:an) (n:Nat) (k:AV→Hp→Option R):Option R:=
 match H[i]? with
 | some (.row c ty st)=>
  bif (st== .live&&ty==e&&decide (off=0)&&decide (len*P.cellsOf e≤c.len)&&aQ P (len+n) e&&cx.bJ) then
   match c.app (intKind P e) (len*P.cellsOf e) cx with
   | some c'=>
    bif fl then bif decide (n=0) then k s H else k (.sl false e H.length 0 (len+n)) (H ++ [.row c' e .live])
    else bif decide (i < lo) then none else k (.sl false e H.length 0 (len+n)) (H.set i (.row c ty .dead) ++ [.row c' e .live])
   | none=>none
  else none
 | _=>none
def IV (H:Hp) (e:TypeId) (s:AV) (cx:an) (n:Nat) (k:AV→Hp→Option R):Option R:=
 bif decide (n=0) then k s H else bif aQ P n e then
  match (an.cells []).app (intKind P e) 0 cx with
  | some c=>k (.sl false e H.length 0 n) (H ++ [.row c e .live])
  | none=>none
 else none
def IU (H:Hp) (e:TypeId) (s:AV) (m:Nat) (f:Nat→Nat→AV) (cx:an) (n:Nat) (k:AV→Hp→Option R):Option R:=
 bif decide (n=0) then k s H else bif aQ P (m+n) e then
  yU (intKind P e) (P.cellsOf e) m f fun G=>match G.app (intKind P e) (m*P.cellsOf e) cx with
   | some c'=>k (.sl false e H.length 0 (m+n)) (H ++ [.row c' e .live])
   | none=>none
 else none
def IZ (lo:Nat) (H:Hp) (e:TypeId) (s:AV) (cx:an) (n:Nat) (k:AV→Hp→Option R):Option R:=
 match s with
 | .val (.slice none 0 0)=>IV P H e s cx n k
 | .sl fl G i off len=>bif e==G then IW P lo H e s fl i off len cx n k else none
 | .lst fl G m f=>bif e==G&&fl then IU P H e s m f cx n k else none
 | _=>none
def IY (lo:Nat) (H:Hp) (ts tx:TypeId) (s x:AV) (k:AV→Hp→Option R):Option R:=
 match ky P ts with
 | some e=>
  bif mb P tx&&qf P e then rT P H e x fun cx n=>IZ P lo H e s cx n k
  else none
 | none=>none
def xY (tx:TypeId):Bool:=match P.underlying tx with | some (.int _)=>true | _=>false
def CD (H:Hp) (ts:TypeId) (s x:AV) (k:AV→Hp→Option R):Option R:=
 match ky P ts,s,x with
 | some e, .val (.slice none 0 0), .val (.int _ n)=>bif decide (0 < n)&&aQ P n.toNat e&&qf P e&&decide (0 < P.cellsOf e) then k (.sl false e H.length 0 n.toNat) (H ++ [.row (.cells []) e .live]) else none
 | _,_,_=>none
def C4 (H:Hp) (t:TypeId) (l c:AV) (k:AV→Hp→Option R):Option R:=
 match ky P t,l,c with
 | some e, .val (.int _ l), .val (.int _ c)=>
  bif decide (0≤l)&&decide (l≤c)&&decide ((P.bytesOf e:Int)*c≤281474976710656)&&decide (c≤9223372036854775807) then
   match (P.info? e).isSome,zeroCells P e with
   | true,some z=>
    match (match intKind P e,z with
     | some G, [.val (.int I 0)]=>bif decide (G=I)&&P.cellsOf e==1 then some (an.ints G (List.replicate l.toNat 0)) else none
     | _,z=>bif z.length==P.cellsOf e then some (.cells (List.replicate l.toNat z).flatten) else none) with
    | some c=>k (.sl false e H.length 0 l.toNat) (H ++ [.row c e .live])
    | none=>none
   | _,_=>none
  else none
 | _,_,_=>none
def Ew (H:Hp) (t:TypeId) (x:AV) (lo hi I:Option AV) (k:AV→Option R):Option R:=
 match P.underlying t,x with
 | some .string, .val (.string s)=>match I with
  | none=>mc s.size lo hi fun l h=>k (.val (.string (dP s l h)))
  | _=>none
 | some (.slice e), .sl fl G i off len=>bif e==G&&(P.info? e).isSome then
   match I with
   | none=>mc len lo hi fun l h=>k (.sl (match hi with | none=>fl | _=>false) G i (off+l*P.cellsOf G) (h - l))
   | some (.val (.int _ m))=>match hi with
    | some (.val (.int _ z))=>mc len lo hi fun l h=>bif decide (z≤m)&&decide (m≤len) then k (.sl (decide (m=z)) G i (off+l*P.cellsOf G) (h - l)) else none
    | _=>none
   | _=>none
  else none
 | some (.slice e), .lst fl G n f=>bif e==G&&(P.info? e).isSome then
   match I with
   | none=>mc n lo hi fun l h=>k (.lst (match hi with | none=>fl | _=>false) G (h - l) (fun j q=>f (j+l) q))
   | some (.val (.int _ m))=>match hi with
    | some (.val (.int _ z))=>mc n lo hi fun l h=>bif decide (z≤m)&&decide (m≤n) then k (.lst (decide (m=z)) G (h - l) (fun j q=>f (j+l) q)) else none
    | _=>none
   | _=>none
  else none
 | some (.slice e), .val (.slice none 0 0)=>match I with
  | none=>bif (P.info? e).isSome then mc 0 lo hi fun l h=>k x else none
  | _=>none
 | some (.array n e), .ptr i off=>match I,H[i]? with
  | none,some (.row c ty st)=>bif (!(st== .dead)&&(P.info? e).isSome&&decide (off+n*P.cellsOf e≤c.len)) then mc n lo hi fun l h=>k (.sl (match hi with | none=>true | _=>false) e i (off+l*P.cellsOf e) (h - l)) else none
  | _,_=>none
 | _,_=>none
def CK (t:TypeId) (x I:AV) (k:AV→Option R):Option R:=
 match P.underlying t,x,I with
 | some (.slice e), .lst _ G n f, .val (.int _ z)=>bif e==G&&(P.info? e).isSome then bif decide (0≤z)&&decide (z < n) then k (.eptr G n f z.toNat 0) else none else none
 | some (.slice e), .sl _ G i off n, .val (.int _ z)=>bif e==G&&(P.info? e).isSome then bif decide (0≤z)&&decide (z < n) then k (.ptr i (off+z.toNat*P.cellsOf e)) else none else none
 | some (.array n e), .ptr i off, .val (.int _ z)=>bif (P.info? e).isSome then bif decide (0≤z)&&decide (z < n) then k (.ptr i (off+z.toNat*P.cellsOf e)) else none else none
 | some (.array n e), .eptr G m f j off, .val (.int _ z)=>bif (P.info? e).isSome then bif decide (0≤z)&&decide (z < n) then k (.eptr G m f j (off+z.toNat*P.cellsOf e)) else none else none
 | _,_,_=>none
def CJ (t:TypeId) (x I:AV) (k:AV→Option R):Option R:=
 match P.underlying t,x,I with
 | some .string, .val (.string s), .val (.int _ z)=>bif decide (0≤z)&&decide (z < s.size) then k (.val (.int .u8 (aT s z.toNat))) else none
 | some (.array n e), .agg cs, .val (.int _ z)=>
  bif decide (0≤z)&&decide (z < n) then
   match intKind P e with
   | some G=>match mj G cs with
    | some zs=>bif P.cellsOf e==1&&zs.length==n then k (.val (.int G (zs.getD z.toNat 0))) else none
    | none=>none
   | none=>uh P e cs (z.toNat*P.cellsOf e) k
  else none
 | _,_,_=>none
def LO:AV→Bool
 | .val (.string _)=>false
 | _=>true
def widens (a b:IntKind):Bool:=decide (b.min≤a.min)&&decide (a.max≤b.max)
def BX (H:Hp) (M I:TypeId) (x:AV) (k:AV→Hp→Option R):Option R:=
 match P.underlying M,P.underlying I with
 | some (.int J),some (.int G)=>match x with
  | .val (.int _ n)=>bif widens J G then bif ah G n then k (.val (.int G n)) H else none else k (.val (.int G (G.wrap n))) H
  | _=>none
 | some .string,some .string=>match x with
  | .val (.string s)=>k x H
  | _=>none
 | some (.slice e),some .string=>bif intKind P e==some .u8&&P.cellsOf e==1&&LO x then rT P H e x fun c n=>match c.tN .u8 with
   | some zs=>k (.val (.string (ofBytes zs))) H
   | none=>none
  else none
 | some .string,some (.slice e)=>match x with
  | .val (.string s)=>bif intKind P e==some .u8&&P.cellsOf e==1 then k (.sl false e H.length 0 s.size) (H ++ [.row (.ints .u8 (dv s)) e .live]) else none
  | _=>none
 | _,_=>none
mutual
def KU:AV→List Nat
 | .ptr i _=> [i]
 | .sl _ _ i _ _=> [i]
 | .yld i=> [i]
 | .agg cs=>fw cs
 | .tup cs=>fw cs
 | .clo _ a b=>fw a ++ fw b
 | _=> []
def fw:List AV→List Nat
 | []=> []
 | v :: l=>KU v ++ fw l
end
mutual
def rM (ρ:Nat→Nat):AV→AV
 | .ptr i off=> .ptr (ρ i) off
 | .sl fl t i off n=> .sl fl t (ρ i) off n
 | .yld i=> .yld (ρ i)
 | .agg cs=> .agg (ff ρ cs)
 | .tup cs=> .tup (ff ρ cs)
 | .clo G a b=> .clo G (ff ρ a) (ff ρ b)
 | .any=> .any
 | .val v=> .val v
 | .lst fl t n f=> .lst fl t n f
 | .eptr t n f j off=> .eptr t n f j off
def ff (ρ:Nat→Nat):List AV→List AV
 | []=> []
 | v :: l=>rM ρ v :: ff ρ l
end
def an.ids:an→List Nat
 | .cells l=>fw l
 | _=> []
def bI.ids:bI→List Nat
 | .row c _ .dead=> []
 | .row c _ _=>c.ids
 | .loop r=>fw r.T
def an.DY (ρ:Nat→Nat):an→an
 | .cells l=> .cells (ff ρ l)
 | c=>c
def yS (ρ:Nat→Nat):bI→bI
 | .row _ ty .dead=> .row (.cells []) ty .dead
 | .row c ty st=> .row (c.DY ρ) ty st
 | .loop r=> .loop { r with T:=ff ρ r.T }
def reach (H:Hp):Nat→List Nat→List Nat→List Nat
 | 0,_,G=>G
 | _, [],G=>G
 | d+1,i :: l,G=>bif G.contains i then reach H d l G else reach H d (l ++ (match H[i]? with | some b=>b.ids | none=> [])) (G ++ [i])
def idx:List Nat→Nat→Nat
 | [],_=>0
 | j :: l,i=>bif j==i then 0 else idx l i+1
def sO (r:List Nat) (l:List AV) (H:Hp):Bool:=(fw l).all (fun i=>r.contains i)&&r.all fun i=>match H[i]? with | some b=>b.ids.all (fun j=>r.contains j) | none=>false
def funcOf:AV→Option (FuncId×List AV×List AV)
 | .clo (.func G) a b=>some (G,a,b)
 | .val (.func (.func G) a b)=>some (G,a.toList.map gJ,b.toList.map gJ)
 | _=>none
inductive Tch where
 | all
 | some (rd:Bool) (l:List (Nat×Bool))
def tid (w:Bool):AV→List (Nat×Bool)
 | .ptr i _=> [(i,w)]
 | .sl _ _ i _ _=> [(i,w)]
 | _=> []
def GB (H:Hp) (l:List AV) (r:List Nat):Tch:=bif sO r l H then .some false (r.map fun i=>(i,false)) else .some true []
def zQ (H:Hp) (q:Option (FuncId×List AV×List AV)) (args:List AV):Tch:=
 match q with
 | some q=>GB H (q.2.1 ++ args ++ q.2.2) (reach H 60 (fw (q.2.1 ++ args ++ q.2.2)) [])
 | none=> .some true []
def fi (E:Env) (T:List AV) (H:Hp) (c:Call):Tch:=
 match c.callee with
 | .builtin .append=>match c.args.toList with
  | [s,x]=> .some false (tid true (aB T s) ++ tid false (aB T x))
  | _=> .all
 | .builtin .unsafeString=>match c.args.toList with
  | p :: _=> .some false (tid true (aB T p))
  | _=> .all
 | .builtin .clear=>match c.args.toList with
  | [x]=> .some false (tid true (aB T x))
  | _=> .all
 | .builtin _=> .some false []
 | .value f=>zQ H (funcOf (aB T f)) (c.args.toList.map (aB T))
 | _=> .all
def cT (E:Env) (T:List AV) (H:Hp) (o:Oper):Tch:=
 match o.op with
 | .load _ x=> .some false (tid false (aB T x))
 | .store _ x _=> .some false (tid true (aB T x))
 | .convert _ _ x=> .some false (tid false (aB T x))
 | .slice _ x _ _ _=> .some false (tid false (aB T x))
 | .call c=>fi E T H c
 | _=> .some false []
structure Cx (R:Type) where
 P:Program
 E:Env
 cf:Nat→FuncId→List AV→Hp→(AV→Hp→Option R)→Option R
 yf:Nat→Nat→List AV→Hp→(AV→Hp→Option R)→Option R
 u:Nat
 fb:Nat
 lo:Nat
 g:FuncId
 rd:Bool
abbrev Kn (R:Type):=AV→Hp→Option R
def Jf (x:Cx R) (g:FuncId) (args:List AV) (H:Hp) (k:Kn R):Option R:=
 match x.E.C g args with
 | some r=>bif r.1 then k r.2 H else none
 | none=>x.cf x.lo g args H k
def Jd (x:Cx R) (g:FuncId) (args G:List AV) (H:Hp) (k:Kn R):Option R:=
 match x.E.C g G with
 | some r=>bif r.1 then bif yx r.2 then k r.2 H else bif (cD H 8 args).all (fun i=>decide (x.lo≤i)) then k r.2 (gO (cD H 8 args) H) else none else none
 | none=>x.cf x.lo g args H k
def sK (x:Cx R) (g:FuncId) (args:List AV) (H:Hp) (k:Kn R):Option R:=
 bif fQ x.P g then
  bif args.any owns then
   bif x.E.K g then ml (kH x.P H 8) args fun G=>Jd x g args G H k else x.cf x.lo g args H k
  else Jf x g args H k
 else none
def ER (T:List AV) (c a b:Operand) (H:Hp) (k:Kn R):Option R:=
 match aB T c with
 | .val (.bool t)=>bif t then k (aB T a) H else k (aB T b) H
 | _=>none
def GM (P:Program) (G:TypeId) (z:List AV):an:=
 match P.underlying G with
 | some (.array _ e)=>mG (intKind P e) z
 | _=> .cells z
def EC (P:Program) (G:TypeId) (H:Hp) (k:Kn R):Option R:=
 match zeroCells P G with
 | some z=>k (.ptr H.length 0) (H ++ [.row (GM P G z) G .live])
 | none=>none
def EG (G:TypeId) (v:AV) (H:Hp) (k:Kn R):Option R:=
 match sM v with
 | some l=>bif l.all aS then k (.ptr H.length 0) (H ++ [.row (.cells l) G .live]) else none
 | none=>none
def qM (T:List AV) (G:Array (Nat×Operand)):List (Nat×AV):=G.toList.map fun p=>(p.1,aB T p.2)
def fieldPlace (P:Program) (G:Array Field) (i:Nat):Option (Nat×Nat):=(G[i]?).map fun f=>(f.offset,P.cellsOf f.type)
def xG (P:Program) (e:TypeId) (i:Nat):Option (Nat×Nat):=some (i*P.cellsOf e,P.cellsOf e)
def BG (P:Program) (t:TypeId) (I:List (Nat×AV)):Option (List AV):=
 match zeroCells P t,P.underlying t with
 | some z,some (.struct G)=>bif G.toList.all (fun f=>(P.info? f.type).isSome) then nJ (fieldPlace P G) z I else none
 | some z,some (.array _ e)=>bif (P.info? e).isSome then nJ (xG P e) z I else none
 | _,_=>none
def y7 (P:Program) (t:TypeId) (I:List (Nat×AV)) (H:Hp) (k:Kn R):Option R:=
 match zeroCells P t,P.underlying t with
 | some z,some (.struct G)=>bif G.toList.all (fun f=>(P.info? f.type).isSome) then qN (fieldPlace P G) z I fun l=>k (.agg l) H else none
 | some z,some (.array _ e)=>bif (P.info? e).isSome then qN (xG P e) z I fun l=>k (.agg l) H else none
 | _,_=>none
def BH (P:Program) (e:TypeId) (n:Nat) (G:List (Nat×AV)):Option (List AV):=
 match zeroCells P e with
 | some z=>bif (P.info? e).isSome&&decide (n*P.cellsOf e≤16777216)&&z.length==P.cellsOf e then nJ (xG P e) (List.replicate n z).flatten G else none
 | none=>none
def y8 (P:Program) (t:TypeId) (n:Nat) (G:List (Nat×AV)) (H:Hp) (k:Kn R):Option R:=
 match ky P t with
 | some e=>match zeroCells P e with
  | some z=>bif (P.info? e).isSome&&decide (n*P.cellsOf e≤16777216)&&z.length==P.cellsOf e then qN (xG P e) (List.replicate n z).flatten G fun l=>k (.sl true e H.length 0 n) (H ++ [.row (mG (intKind P e) l) e .live]) else none
  | none=>none
 | none=>none
def EM (P:Program) (s f:Nat) (v:AV) (H:Hp) (k:Kn R):Option R:=
 match Km P s f v with
 | some v=>k v H
 | none=>none
def EO (v:AV) (H:Hp) (k:Kn R):Option R:=
 match v with
 | .ptr i off=>k (.ptr i off) H
 | .eptr t n f j off=>k (.eptr t n f j off) H
 | .clo (.func g) a b=>k (.clo (.func g) a b) H
 | .yld i=>k (.yld i) H
 | .val (.func (.func g) a b)=>k (.val (.func (.func g) a b)) H
 | _=>none
def xL (P:Program) (neg:Bool) (t:TypeId) (a b:AV) (H:Hp) (k:Kn R):Option R:=
 Ci P t a b fun q=>k (.val (.bool (bif neg then !q else q))) H
def wP (P:Program) (G:BinOp) (t:TypeId) (a b:AV) (H:Hp) (k:Kn R):Option R:=
 match G with
 | .eql=>xL P false t a b H k
 | .neq=>xL P true t a b H k
 | _=>none
def I3 (I:BinOp) (G:IntKind) (a:Int) (J:IntKind) (b:Int) (H:Hp) (k:Kn R):Option R:=
 match I with
 | .shl=>yZ .shl G a b fun v=>k v H
 | .shr=>yZ .shr G a b fun v=>k v H
 | I=>bif decide (G=J) then CL I G a b fun v=>k v H else none
def EE (P:Program) (G:BinOp) (t:TypeId) (a b:AV) (H:Hp) (k:Kn R):Option R:=
 match a with
 | .val v=>match v with
  | .int I x=>match b with
   | .val (.int J y)=>I3 G I x J y H k
   | _=>none
  | .string x=>match b with
   | .val (.string y)=>Fa G x y fun v=>k v H
   | _=>none
  | v=>wP P G t (.val v) b H k
 | a=>wP P G t a b H k
def EL (v:AV) (G:Nat) (H:Hp) (k:Kn R):Option R:=
 match v with
 | .tup vs=>match vs[G]? with
  | some v=>k v H
  | none=>none
 | _=>none
def nc (P:Program) (T:List AV) (o:Oper) (H:Hp) (k:Kn R):Option R:=
 match Dh P T o with
 | some v=>k v H
 | none=>none
def EN (P:Program) (T:List AV) (o:Oper) (args:List Operand) (ts:List TypeId) (H:Hp) (k:Kn R):Option R:=
 match args,ts with
 | [x], [t]=>match Lc P t (aB T x) with
  | some v=>k v H
  | none=>nc P T o H k
 | _,_=>none
def ED (P:Program) (lo:Nat) (T:List AV) (args:List Operand) (ts:List TypeId) (H:Hp) (k:Kn R):Option R:=
 match args,ts with
 | [s,x], [ts,tx]=>bif xY P tx then CD P H ts (aB T s) (aB T x) k else IY P lo H ts tx (aB T s) (aB T x) k
 | _,_=>none
def EK (P:Program) (T:List AV) (o:Oper) (args:List Operand) (H:Hp) (k:Kn R):Option R:=
 match args with
 | [x]=>match aB T x with
  | .sl _ _ i off len=>bif len==0 then none else k (.ptr i off) H
  | .val _=>nc P T o H k
  | _=>none
 | _=>none
def OR (P:Program) (lo:Nat) (tp:TypeId) (i off:Nat) (z:Int) (H:Hp) (k:Kn R):Option R:=
 match P.underlying tp,H[i]? with
 | some (.pointer e),some (.row (.ints .u8 zs) ty .live)=>
  bif e==ty&&P.cellsOf e==1&&off==0&&decide (0 < z)&&decide (z≤9223372036854775807)&&decide (z.toNat≤zs.length)&&zs.all (ah .u8)&&decide (lo≤i) then
   k (.val (.string (ofBytes (zs.take z.toNat)))) (H.set i (.row (.ints .u8 zs) ty .froz))
  else none
 | _,_=>none
def ET (P:Program) (lo:Nat) (T:List AV) (o:Oper) (args:List Operand) (ts:List TypeId) (H:Hp) (k:Kn R):Option R:=
 match args,ts with
 | [p,n], [tp,_]=>match aB T p with
  | .ptr i off=>match aB T n with
   | .val (.int _ z)=>OR P lo tp i off z H k
   | _=>none
  | .val _=>nc P T o H k
  | _=>none
 | _,_=>none
def oo (n:Nat) (z:List AV):List Value:=(List.range (n*z.length)).map fun j=>(z.map lW).getD (j % z.length) undef
def Js (P:Program) (lo:Nat) (H:Hp) (ts:TypeId) (x:AV) (k:Hp→Option R):Option R:=
 match ky P ts,x with
 | some e, .sl _ G i off n=>bif decide (i < lo) then none else
  match H[i]?,zeroCells P e with
  | some (.row (.vals vs) ty .live),some z=>
   bif e==G&&z.all isVal&&z.all aS&&z.length==P.cellsOf e&&decide (0 < n)&&decide (off+n*P.cellsOf e≤vs.length) then k (H.set i (.row (.vals (vs.take off ++ oo n z ++ vs.drop (off+n*P.cellsOf e))) ty .live)) else none
  | _,_=>none
 | _,_=>none
def EI (P:Program) (lo:Nat) (T:List AV) (args:List Operand) (ts:List TypeId) (H:Hp) (k:Kn R):Option R:=
 match args,ts with
 | [x], [t]=>Js P lo H t (aB T x) fun G=>k (.tup []) G
 | _,_=>none
def Oc (P:Program) (lo:Nat) (T:List AV) (o:Oper) (b:Builtin) (c:Call) (H:Hp) (k:Kn R):Option R:=
 match b with
 | .len=>EN P T o c.args.toList c.argTypes.toList H k
 | .append=>ED P lo T c.args.toList c.argTypes.toList H k
 | .unsafeSliceData=>EK P T o c.args.toList H k
 | .unsafeString=>ET P lo T o c.args.toList c.argTypes.toList H k
 | .clear=>EI P lo T c.args.toList c.argTypes.toList H k
 | .min=>nc P T o H k
 | .max=>nc P T o H k
 | .cap=>nc P T o H k
 | _=>none
def EU (x:Cx R) (f:AV) (args:List AV) (H:Hp) (k:Kn R):Option R:=
 match f with
 | .val v=>match v with
  | .func G a b=>match G with
   | .func g=>sK x g (a.toList.map gJ ++ args ++ b.toList.map gJ) H k
   | _=>none
  | _=>none
 | .clo G a b=>match G with
  | .func g=>sK x g (a ++ args ++ b) H k
  | _=>none
 | .yld i=>x.yf x.lo i args H k
 | _=>none
def Co (P:Program) (g:FuncId):Bool:=
 match P.funcs[g]? with
 | some G => G.body.isNone && G.name == "internal/abi.NoEscape" && (G.origin == "" || G.origin == "internal/abi.NoEscape")
 | none=>false
def Cm (P:Program) (f:AV) (args:List AV):Option AV:=
 match f,args with
 | .val (.func (.func g) a b), [v]=>bif a.size==0&&b.size==0&&Co P g then some v else none
 | _,_=>none
def Od (x:Cx R) (f:AV) (args:List AV) (H:Hp) (k:Kn R):Option R:=
 match Cm x.P f args with
 | some v=>k v H
 | none=>EU x f args H k
def EH (x:Cx R) (T:List AV) (o:Oper) (c:Call) (H:Hp) (k:Kn R):Option R:=
 match c.callee with
 | .value f=>Od x (aB T f) (c.args.toList.map (aB T)) H k
 | .builtin b=>Oc x.P x.lo T o b c H k
 | _=>none
def JK (P:Program) (s d:TypeId) (i off:Nat) (H:Hp) (k:Kn R):Option R:=
 match P.underlying s,P.underlying d with
 | some (.pointer t),some .unsafePointer=>match P.info? t,H[i]? with
  | some j,some (.row c ty st)=>bif !(st== .dead)&& !(j.size==0)&&decide (off < c.len) then k (.ptr i off) H else none
  | _,_=>none
 | some .unsafePointer,some (.pointer u)=>match P.info? u,H[i]? with
  | some j,some (.row c ty st)=>bif !(st== .dead)&&ty==u&&off==0&&decide (0 < P.cellsOf u)&&decide (P.cellsOf u≤c.len) then k (.ptr i off) H else none
  | _,_=>none
 | _,_=>none
def EJ (P:Program) (H:Hp) (s d:TypeId) (v:AV) (k:Kn R):Option R:=
 match v with
 | .ptr i off=>JK P s d i off H k
 | v=>BX P H s d v k
def M6 (P:Program) (J:BinOp) (t:TypeId) (i o j I:Nat) (H:Hp) (k:Kn R):Option R:=
 match P.underlying t,J with
 | some (.pointer G), .eql=>bif i==j&&o==I&&(P.info? G).isSome then k (.val (.bool true)) H else none
 | some (.pointer G), .neq=>bif i==j&&o==I&&(P.info? G).isSome then k (.val (.bool false)) H else none
 | _,_=>none
def EF (P:Program) (G:BinOp) (t:TypeId) (a b:AV) (H:Hp) (k:Kn R):Option R:=
 match a,b with
 | .ptr i o, .ptr j I=>M6 P G t i o j I H k
 | a,b=>EE P G t a b H k
def EP (x:Cx R) (T:List AV) (o:Oper) (H:Hp) (k:Kn R):Option R:=
 match o.op with
 | .move a=>k (aB T a) H
 | .assign a=>k (aB T a) H
 | .pick c a b=>ER T c a b H k
 | .alloc G=>EC x.P G H k
 | .box G a=>EG G (aB T a) H k
 | .build t I=>y7 x.P t (qM T I) H k
 | .buildSlice t n I=>y8 x.P t n (qM T I) H k
 | .load t a=>o6 x.P H t (aB T a) fun v=>k v H
 | .store t a b=>E8 x.P x.lo H t (aB T a) (aB T b) fun J=>k (.val undef) J
 | .fieldAddr s a f=>EM x.P s f (aB T a) H k
 | .field s a f=>Cq x.P s f (aB T a) fun v=>k v H
 | .indexAddr t a i=>CK x.P t (aB T a) (aB T i) fun v=>k v H
 | .index t a i=>CJ x.P t (aB T a) (aB T i) fun v=>k v H
 | .slice t a lo hi O=>Ew x.P H t (aB T a) (lo.map (aB T)) (hi.map (aB T)) (O.map (aB T)) fun v=>k v H
 | .convert s d a=>EJ x.P H s d (aB T a) k
 | .makeSlice t l c=>C4 x.P H t (aB T l) (aB T c) k
 | .makeFunc M a b=>k (.clo M (a.toList.map (aB T)) (b.toList.map (aB T))) H
 | .nilCheck a=>EO (aB T a) H k
 | .binOp U t a b _=>EF x.P U t (aB T a) (aB T b) H k
 | .extract a i=>EL (aB T a) i H k
 | .call c=>EH x T o c H k
 | .unOp .. =>nc x.P T o H k
 | _=>none
def j3 (G:Option Tmp) (v:AV) (T:List AV):List AV:=match G with | some d=>C1 T d v | none=>T
def nK (T:List AV) (d:Nat) (b:Bool):List AV:=C1 T d (.val (.bool b))
abbrev Tl:=List (Tch×Nat×Nat)
abbrev Lk (R:Type):=List AV→Hp→Tl→Option R
def jJ (o:Op):Bool:=match o with | .call { callee:= .value _, .. } =>true | _=>false
def im (x:Cx R) (G:Bool) (o:Oper) (H:Hp):Cx R:=bif G&&jJ o.op then { x with lo:=H.length } else x
def tP (x:Cx R) (I:Bool) (o:Oper) (T:List AV) (H:Hp) (M:Tl) (J:Lk R):Option R:=
 EP (im x I o H) T o H fun v G=>J (j3 o.dst v T) G ((bif I then cT x.E T H o else .all,H.length,G.length) :: M)
def x4 (o:Oper) (T:List AV) (H:Hp) (I:Tl) (G:Lk R):Option R:=G (j3 o.dst (.val undef) T) H ((.some false [],H.length,H.length) :: I)
def KX (x:Cx R) (J:Bool) (o:Oper) (d:Nat) (M:Bool) (T:List AV) (H:Hp) (I:Tl) (G:Lk R):Option R:=
 match al T d with
 | .val v=>match v with
  | .bool b=>
   bif b then (bif M then tP x J o (nK T d true) H I G else x4 o (nK T d true) H I G)
   else (bif M then x4 o (nK T d false) H I G else tP x J o (nK T d false) H I G)
  | _=>x4 o T H I G
 | _=>none
def CN (x:Cx R) (ops:Array Oper) (G:Bool) (o:Oper) (T:List AV) (H:Hp) (M:Tl) (J:Lk R):Option R:=
 match o.guard with
 | none=>tP x G o T H M J
 | some I=>match (ops[I.1]?).bind (·.dst) with
  | some d=>KX x G o d I.2 T H M J
  | none=>none
def lq (x:Cx R) (ops:Array Oper):List (Bool×Oper)→List AV→Hp→Tl→Lk R→Option R
 | [],T,H,G,k=>k T H G
 | o :: l,T,H,G,k=>CN x ops o.1 o.2 T H G fun T H G=>lq x ops l T H G k
def gL (o:Oper):List Nat:=(o.after.toList.filter (Region.binds .any)).map (·.on)
def mf (ops:List Oper):List (List Nat):=
 ops.foldl (fun G o=>G ++ [((gL o) ++ (gL o).flatMap fun e=>G.getD e []).eraseDups]) []
def FI (c:List (List Nat)) (n m:Nat):Bool:=(List.range n).all fun d=>decide (d < m) ||(List.range d).all fun i=>(c.getD d []).contains i
def CE (c:List (List Nat)) (n:Nat):Nat:=((List.range (n+1)).find? fun m=>FI c n m).getD n
def B5 (ops:Array Oper):Bool:=
 let l:=ops.toList
 let c:=mf l
 let m:=CE c l.length
 c.length==l.length&&FI c l.length m&&decide (m≤l.length)&&
 ((List.range l.length).all fun d=>match l[d]? with
  | none=>false
  | some o=>(gL o).all (fun e=>decide (e < d))&&(c.getD d []).all fun i=>(gL o).contains i ||(gL o).any fun e=>(c.getD e []).contains i)&&
 ((List.range m).all fun i=>match l[i]? with
  | none=>false
  | some o=>(List.range m).all fun j=>match l[j]? with
   | none=>false
   | some G=>(i==j ||o.dst.isNone || !(o.dst==G.dst))&&(match G.dst with | none=>true | some t=> !(o.looksAt ops).contains t ||((c.getD i []).contains j ||(c.getD j []).contains i)))
def C6 (l:List (Nat×Bool)):Bool:=l.all fun x=> !x.2
def apart:Tch→Tch→Bool
 | .some false [],_=>true
 | _, .some false []=>true
 | .some a l, .some b m=>(!a ||C6 m)&&(!b ||C6 l)&&l.all fun x=>m.all fun y=> !(x.1==y.1) ||(!x.2&& !y.2)
 | _,_=>false
def Tch.rd:Tch→Bool
 | .all=>true
 | .some a _=>a
def Tch.ls:Tch→List (Nat×Bool)
 | .all=> []
 | .some _ l=>l
def Tch.isSome:Tch→Bool
 | .all=>false
 | .some _ _=>true
def Bt (a b:Tch×Nat×Nat):Bool:=apart a.1 b.1&&(!a.1.rd ||decide (b.2.2≤b.2.1))&&b.1.ls.all fun y=> !(decide (a.2.1≤y.1)&&decide (y.1 < a.2.2))
def cw (ops:Array Oper):Nat:=CE (mf ops.toList) ops.size
def GA (ops:Array Oper) (G:Tl):Bool:=
 (List.range (cw ops)).all fun j=>(match G.reverse[j]? with | some a=>a.1.isSome&&a.1.ls.all (fun y=>decide (y.1 < a.2.1)) | none=>false)&&(List.range j).all fun i=>((mf ops.toList).getD j []).contains i ||(match G.reverse[i]?,G.reverse[j]? with | some a,some b=>Bt a b | _,_=>false)
def jr (ops:Array Oper):List (Bool×Oper):=ops.toList.zipIdx.map fun p=>(decide (p.2 < cw ops),p.1)
def Cr (T:List AV) (c:Operand) (b:Bool):List AV:=match c with | .tmp d=>nK T d b | _=>T
abbrev Cn (R:Type):=Ex→List AV→Hp→Option R
def tU (G:List AV→Hp→Cn R→Option R):Nat→List AV→Hp→Cn R→Option R
 | 0,_,_,_=>none
 | n+1,T,H,k=>G T H fun e T H=>match e with
  | .normal=>tU G n T H k
  | e=>k e T H
def kL (keep:List Nat) (T:List AV):List AV:=T.mapIdx fun i v=>bif keep.contains i then v else .any
def yp:List Nat→Bool
 | []=>true
 | i :: l=> !l.contains i&&yp l
def qR (r:List Nat) (T:List AV) (H:Hp):Bool:=yp r&&(fw T).all (fun i=>r.contains i)&&r.all fun i=>match H[i]? with | some b=>b.ids.all (fun j=>r.contains j) | none=>false
def gQ (r:List Nat) (H:Hp):Hp:=r.map fun i=>match H[i]? with | some b=>yS (idx r) b | none=> .row (.cells []) 0 .dead
def tK (r:List Nat) (T:List AV) (H:Hp) (k:List AV→Hp→Option R):Option R:=bif qR r T H then k (ff (idx r) T) (gQ r H) else none
def oP (keep:List Nat) (T:List AV) (H:Hp) (k:List AV→Hp→Option R):Option R:=tK (reach H 1000 (fw (kL keep T)) []) (kL keep T) H k
def aaJ (keep:List Nat):List Nat:=(keep.filter fun i=>decide (1000≤i)).map (· - 1000)
def o9 (keep:List Nat):bI→bI
 | .loop r=> .loop { r with T:=kL (aaJ keep) r.T }
 | .row c ty st=> .row c ty st
def iI (keep:List Nat) (H:Hp):Hp:=H.map (o9 keep)
def Cw (fb:Nat) (r:List Nat):Bool:=(List.range fb).all fun i=>match r[i]? with | some j=>j==i | none=>false
def KE (fb:Nat) (r:List Nat) (T:List AV) (H:Hp) (k:List AV→Hp→Option R):Option R:=bif qR r T H&&Cw fb r then k (ff (idx r) T) (gQ r H) else none
def KD (fb:Nat) (keep:List Nat) (T:List AV) (H:Hp) (k:List AV→Hp→Option R):Option R:=KE fb (reach (iI keep H) 1000 (List.range fb ++ fw (kL keep T)) []) (kL keep T) (iI keep H) k
def DW (x:Cx R) (ops:Array Oper) (G:Bool) (T:List AV) (H:Hp) (k:Cn R):Option R:=
 bif G then bif B5 ops then lq x ops (jr ops) T H [] fun T H I=>bif GA ops I then k .normal T H else none else none
 else lq x ops (ops.toList.map fun o=>(false,o)) T H [] fun T H _=>k .normal T H
def abB (B:List AV→Hp→Cn R→Option R) (k:Cn R):Cn R:=fun e T H=>
 match e with
 | .normal=>B T H k
 | e=>k e T H
def I7 (id:Nat) (k:Cn R):Cn R:=fun e T H=>
 match e with
 | .exit G=>bif G==id then k .normal T H else k (.exit G) T H
 | e=>k e T H
def JG (c:Operand) (A B:List AV→Hp→Cn R→Option R) (T:List AV) (H:Hp) (k:Cn R):Option R:=
 match aB T c with
 | .val v=>match v with
  | .bool t=>bif t then A (Cr T c true) H k else B (Cr T c false) H k
  | _=>none
 | _=>none
def vW (q:Option (Bool×Ex×List AV×Hp)) (k:Cn R):Option R:=
 match q with
 | some r=>bif r.1 then k r.2.1 r.2.2.1 r.2.2.2 else none
 | none=>none
def Lw (x:Cx R) (p:List Bool) (B:List AV→Hp→Cn R→Option R) (T:List AV) (H:Hp) (k:Cn R):Option R:=
 match x.E.L x.g x.fb p with
 | some s=>bif x.rd then tU B x.u T H k else
   bif x.fb==0 then oP s.1 T H fun T H=>vW (s.2 T H) k
   else bif x.lo==0 then (bif s.1.any (fun i=>decide (1000≤i)) then KD x.fb s.1 T H fun T H=>vW (s.2 T H) k else vW (s.2 (kL s.1 T) H) k) else none
 | none=>tU B x.u T H k
def DV (i:Nat) (T:List AV) (k:Cn R):Kn R:=fun _ G=>
 match G[i]? with
 | some (.loop r)=>
  bif r.st== .busy then none else
  match r.da with
  | none=>k .normal T (G.set i (.loop { r with st:= .exhausted }))
  | some .ret=>k .ret T (G.set i (.loop { r with st:= .exhausted }))
  | some (.exit n)=>k (.exit n) T (G.set i (.loop { r with st:= .exhausted }))
 | _=>none
def DU (x:Cx R) (f:Operand) (params:Array Tmp) (p:List Bool) (T:List AV) (H:Hp) (k:Cn R):Option R:=
 bif x.rd then none else
 match funcOf (aB T f) with
 | some q=>bif fQ x.P q.1 then
   x.cf x.lo q.1 (q.2.1 ++ [.yld H.length] ++ q.2.2) (H ++ [.loop { T:=T,params:=params,g:=x.g,path:=p,st:= .ready,da:=none }]) (DV H.length T k)
  else none
 | none=>none
def exec (x:Cx R):Code→List Bool→List AV→Hp→Cn R→Option R
 | .skip,_,T,H,k=>k .normal T H
 | .region _ ops I,_,T,H,k=>DW x ops I T H k
 | .seq a b,p,T,H,k=>exec x a (false :: p) T H (abB (exec x b (true :: p)) k)
 | .cond c a b,p,T,H,k=>JG c (exec x a (false :: p)) (exec x b (true :: p)) T H k
 | .block id G,p,T,H,k=>exec x G (false :: p) T H (I7 id k)
 | .loop G,p,T,H,k=>Lw x p (exec x G (false :: p)) T H k
 | .exit id,_,T,H,k=>k (.exit id) T H
 | .scope G,p,T,H,k=>exec x G (false :: p) T H k
 | .label _,_,T,H,k=>k .normal T H
 | .ret,_,T,H,k=>k .ret T H
 | .rangeFunc f params _ _,p,T,H,k=>DU x f params p T H k
 | _,_,_,_,_=>none
def D8 (T:List AV) (H:Hp) (x:ResultVar) (k:AV→Option R):Option R:=
 match x with
 | .tmp t=>k (aB T (.tmp t))
 | .cell x t=>o6 P H t (aB T (.tmp x)) k
def vu (T:List AV) (H:Hp):List ResultVar→(List AV→Option R)→Option R
 | [],k=>k []
 | x :: l,k=>D8 P T H x fun v=>vu T H l fun vs=>k (v :: vs)
def ry:List AV→AV
 | [v]=>v
 | vs=> .tup vs
def vA (T:List AV) (ps:List Tmp) (args:List AV):List AV:=(ps.zip args).foldl (fun T p=>T.set p.1 p.2) T
def D9 (G:Func) (k:Kn R):Cn R:=fun e T H=>
 match e with
 | .exit _=>none
 | _=>vu P T H G.results.toList fun vs=>k (ry vs) H
def xI (i:Nat) (k:Kn R):Cn R:=fun e J G=>
 match G[i]? with
 | some (.loop I)=>match e with
  | .normal=>k (.val (.bool true)) (G.set i (.loop { I with st:= .ready,da:=none }))
  | .ret=>k (.val (.bool false)) (G.set i (.loop { I with st:= .done,da:=some .ret }))
  | .exit n=>k (.val (.bool false)) (G.set i (.loop { I with st:= .done,da:=some (.exit n) }))
 | _=>none
def By (i:Nat) (B:Nat→List AV→Hp→Cn R→Option R) (k:Kn R):Cn R:=fun e J G=>
 match e with
 | .normal=>match G[i]? with
  | some (.loop I)=>bif I.st== .ready then B G.length J (G.set i (.loop { I with st:= .busy })) (xI i k) else none
  | _=>none
 | _=>none
def yi:Code→Bool
 | .loop _=>true
 | _=>false
def O6 (E:Env) (g:FuncId) (c:Code) (lo:Nat) (args:List AV) (H:Hp):Option (Bool×Ex×List AV×Hp):=
 match E.L g 0 [] with
 | some s=>bif lo==0&& !yi c then s.2 args H else none
 | none=>none
def O7 (r:Bool×Ex×List AV×Hp) (k:AV→Hp→Option R):Option R:=bif r.1 then (match r.2.2.1 with | v :: _=>k v r.2.2.2 | []=>none) else none
mutual
def fI (E:Env) (u:Nat):Nat→Nat→FuncId→List AV→Hp→(AV→Hp→Option R)→Option R
 | 0,_,_,_,_,_=>none
 | d+1,lo,g,args,H,k=>
  match P.funcs[g]? with
  | none=>none
  | some G=>
   match G.body with
   | none=>none
   | some c=>
    match O6 E g c lo args H with
    | some r=>O7 r k
    | none=>bif decide (lo≤H.length) then exec ⟨P,E,fI E u d,lf E u d,u,H.length,lo,g,false⟩ c [] (args ++ List.replicate (G.ntmps - args.length) (.val undef)) H (D9 P G k) else none
def lf (E:Env) (u:Nat):Nat→Nat→Nat→List AV→Hp→(AV→Hp→Option R)→Option R
 | 0,_,_,_,_,_=>none
 | d+1,lo,i,args,H,k=>
  match H[i]? with
  | some (.loop r)=>
   match aI P r.g r.path with
   | some (.rangeFunc _ _ I J)=>
    bif r.st== .ready&&args.length==r.params.size&&decide (lo≤i) then
     exec ⟨P,E,fI E u d,lf E u d,u,H.length,lo,r.g,true⟩ I (false :: r.path) (vA r.T r.params.toList args) H
      (By i (fun fb=>exec ⟨P,E,fI E u d,lf E u d,u,fb,lo,r.g,true⟩ J (true :: r.path)) k)
    else none
   | _=>none
  | _=>none
end
def aG (E:Env) (u d:Nat) (g:FuncId) (args:List AV):Option AV:=
 fI P E u d 0 g args [] fun v H=>kH P H 8 v some
end
end Go.V
end
namespace Go.V
open Go Go.RowKit
def a8 (h:Hf) (n:Nat) (k:Option bI):Hf:=fun m=>if m=n then k else h m
def eU (α:Nat→Nat×Nat) (n:Nat) (x:Nat×Nat):Nat→Nat×Nat:=fun m=>if m=n then x else α m
def fz (D:Nat→Prop) (n:Nat):Nat→Prop:=fun m=>D m∨m=n
@[simp] theorem cU (h:Hf) (n:Nat) (k:Option bI):a8 h n k n=k:=if_pos rfl
theorem bM (h:Hf) {n m:Nat} (k:Option bI) (e:m≠n):a8 h n k m=h m:=if_neg e
@[simp] theorem eV (α:Nat→Nat×Nat) (n:Nat) (x:Nat×Nat):eU α n x n=x:=if_pos rfl
theorem fj (α:Nat→Nat×Nat) {n m:Nat} (x:Nat×Nat) (e:m≠n):eU α n x m=α m:=if_neg e
section
variable {P : Program} {B0 : Nat → Prop} {w0 : World} {D D' : Nat → Prop} {α α' : Nat → Nat × Nat} {h h' : Hf} {w w' : World}
theorem cO.mono {B B':Nat→Prop} {k:bI} {a:Nat×Nat} (Z:eY D D' α α' B B' w w') (hb:∀ o,w.heap[a.1]? =some o→(k.isLive=true∨k.iG=true)→w'.heap[a.1]? =some o) (G:cO P α B w D k a):cO P α' B' w' D' k a:=by
 cases k with
 | row c ty st=>
  rcases G with G | ⟨cs,fr,I,J,M,O,U⟩
  ·exact .inl G
  ·by_cases ab:st= .dead
   ·exact .inl ab
   ·refine .inr ⟨cs,fr,hb _ I ?_,J,M,O,aj.mono _ _ Z U⟩
    cases st
    ·exact .inl rfl
    ·exact .inr rfl
    ·exact absurd rfl ab
 | loop r=>
  obtain ⟨L,I,J,M,O,U,aE⟩:=G
  exact ⟨L,hb _ I (.inl rfl),J,M,O,U,aj.mono _ _ Z aE⟩
theorem nS (G:Ok P B0 w0 D α h w) (hb:bm w.heap.size w w'):Ok P B0 w0 D α h w'∧bA D D α α (aN D α h) (aN D α h) w w':=by
 have M:bA D D α α (aN D α h) (aN D α h) w w':= ⟨fun _ h=>h,fun _ _=>rfl,fun b o I U=> ⟨U,(hb.block b (Array.getElem?_eq_some_iff.1 I).1).trans I⟩⟩
 have ab:=G.below.size
 have aE:=hb.size
 refine ⟨⟨G.lt,G.below.trans (hb.mono ab),fun b J=> ?_,G.sep,fun i hi=> ?_,G.inj,G.db,fun i k hi Z=> ?_⟩,M⟩
 ·have I:=(G.cN b J).1
  exact ⟨by omega,fun ds=>by rw [hb.block b I];exact (G.cN b J).2 ds⟩
 ·have:=G.fresh i hi;omega
 ·exact cO.mono (M.keeps B0) (fun o O _=>(hb.block _ (Array.getElem?_eq_some_iff.1 O).1).trans O) (G.cJ i k hi Z)
theorem wO (w:World):bm w.heap.size w w.drew:=(bm.refl _ w).drew
theorem Da (J:Ok P B0 w0 D α h w) {n:Nat} (b2:¬ D n) {o:Obj} (b7:∀ ds,o≠ .deferred ds) {k:bI} (bx:k.isLive=true) {sz:Nat}
  (b1:∀ D' α' B' w',eY D D' α α' (Own B0 D α h) B' w w'→w'.heap[w.heap.size]? =some o→cO P α' B' w' D' k (w.heap.size,sz)):
  Ok P B0 w0 (fz D n) (eU α n (w.heap.size,sz)) (a8 h n (some k)) (w.alloc o)∧bA D (fz D n) α (eU α n (w.heap.size,sz)) (aN D α h) (aN (fz D n) (eU α n (w.heap.size,sz)) (a8 h n (some k))) w (w.alloc o):=by
 have I:∀ i,D i→i≠n:=fun i hi e=>b2 (e ▸ hi)
 have a6:∀ b,aN (fz D n) (eU α n (w.heap.size,sz)) (a8 h n (some k)) b↔aN D α h b∨b=w.heap.size:=by
  intro b
  constructor
  ·rintro ⟨i,a7,hi | hi,G,M,U⟩
   ·rw [bM _ _ (I i hi)] at G
    rw [fj _ _ (I i hi)] at U
    exact .inl ⟨i,a7,hi,G,M,U⟩
   ·subst hi;rw [eV] at U;exact .inr U.symm
  ·rintro (⟨i,a7,hi,G,M,U⟩ | rfl)
   ·exact ⟨i,a7, .inl hi,by rw [bM _ _ (I i hi)];exact G,M,by rw [fj _ _ (I i hi)];exact U⟩
   ·exact ⟨n,k, .inr rfl,cU _ _ _,bx,by rw [eV]⟩
 have a1:bA D (fz D n) α (eU α n (w.heap.size,sz)) (aN D α h) (aN (fz D n) (eU α n (w.heap.size,sz)) (a8 h n (some k))) w (w.alloc o):=by
  refine ⟨fun _ h=> .inl h,fun i hi=>fj _ _ (I i hi),fun b b6 G M=> ?_⟩
  have hb:=(Array.getElem?_eq_some_iff.1 G).1
  exact ⟨fun h=>((a6 b).1 h).elim M (fun e=>by omega),(Below.heap_alloc _ _ _ hb).trans G⟩
 have b3:(w.alloc o).heap[w.heap.size]? =some o:=World.alloc_heap_new w o
 have b4:=J.below.size
 refine ⟨⟨?_,J.below.alloc b4 _,fun b ab=> ?_,fun b ab O=> ?_, ?_, ?_, ?_, ?_⟩,a1⟩
 ·rintro i (hi | rfl)
  ·rw [bM _ _ (I i hi)];exact J.lt i hi
  ·exact ⟨k,cU _ _ _⟩
 ·have G:=(J.cN b ab).1
  exact ⟨by rw [World.size_alloc];omega,fun ds=>by rw [Below.heap_alloc _ _ _ G];exact (J.cN b ab).2 ds⟩
 ·rcases (a6 b).1 O with G | G
  ·exact J.sep b ab G
  ·have:=(J.cN b ab).1;omega
 ·rintro i (hi | rfl)
  ·rw [fj _ _ (I i hi),World.size_alloc]
   have:=J.fresh i hi
   omega
  ·rw [eV,World.size_alloc];simp only;omega
 ·rintro i j k1 b5 (hi | rfl) (aE | rfl) G M U b0 Z
  ·rw [bM _ _ (I i hi)] at G
   rw [bM _ _ (I j aE)] at M
   rw [fj _ _ (I i hi),fj _ _ (I j aE)] at Z
   exact J.inj i j k1 b5 hi aE G M U b0 Z
  ·rw [fj _ _ (I i hi),eV] at Z
   have:=J.fresh i hi
   simp only at Z
   omega
  ·rw [fj _ _ (I j aE),eV] at Z
   have:=J.fresh j aE
   simp only at Z
   omega
  ·rfl
 ·rintro i k1 (hi | rfl) G M O
  ·rw [bM _ _ (I i hi)] at G
   rw [fj _ _ (I i hi)] at O
   rcases O with O | O
   ·exact J.db i k1 hi G M (.inl O)
   ·rcases (a6 _).1 O with O | O
    ·exact J.db i k1 hi G M (.inr O)
    ·have:=J.fresh i hi;omega
  ·rw [cU] at G
   cases G
   cases k with
   | row c ty st=>cases st <;> simp [bI.isLive,bI.iG] at bx M
   | loop r=>simp [bI.iG] at M
 ·rintro i k1 (hi | rfl) G
  ·rw [bM _ _ (I i hi)] at G
   rw [fj _ _ (I i hi)]
   exact cO.mono (a1.keeps B0) (fun b6 bD _=>(Below.heap_alloc _ _ _ (Array.getElem?_eq_some_iff.1 bD).1).trans bD) (J.cJ i k1 hi G)
  ·rw [cU] at G
   cases G
   rw [eV]
   exact b1 _ _ _ _ (a1.keeps B0) b3
theorem yu (M:Ok P B0 w0 D α h w) {i:Nat} (hi:D i) {k0 k1:bI} (U:h i=some k0) (Z:k0.isLive=true) (b2:k1.isLive=true) (b3:w'.heap.size=w.heap.size) (b0:∀ b,b≠(α i).1→w'.heap[b]? =w.heap[b]?)
  (ch:∀ B,B≤(α i).1→bm B w w') (a7:eY D D α α (Own B0 D α h) (Own B0 D α (a8 h i (some k1))) w w'→cO P α (Own B0 D α (a8 h i (some k1))) w' D k1 (α i)):
  Ok P B0 w0 D α (a8 h i (some k1)) w'∧bA D D α α (aN D α h) (aN D α (a8 h i (some k1))) w w':=by
 have b1:∀ b,aN D α (a8 h i (some k1)) b↔aN D α h b:=by
  intro b
  constructor
  ·rintro ⟨j,ab,I,G,J,O⟩
   by_cases e:j=i
   ·subst e;exact ⟨j,k0,I,U,Z,O⟩
   ·rw [bM _ _ e] at G;exact ⟨j,ab,I,G,J,O⟩
  ·rintro ⟨j,ab,I,G,J,O⟩
   by_cases e:j=i
   ·subst e;exact ⟨j,k1,I,cU _ _ _,b2,O⟩
   ·exact ⟨j,ab,I,by rw [bM _ _ e];exact G,J,O⟩
 have bD:bA D D α α (aN D α h) (aN D α (a8 h i (some k1))) w w':=
  ⟨fun _ h=>h,fun _ _=>rfl,fun b o G J=> ⟨fun h=>J ((b1 b).1 h),(b0 b (fun e=>J (e ▸ ⟨i,k0,hi,U,Z,rfl⟩))).trans G⟩⟩
 refine ⟨⟨fun j I=> ?_,M.below.trans (ch _ (M.fresh i hi).1),fun b a6=> ?_,fun b a6 bx=>M.sep b a6 ((b1 b).1 bx),fun j I=>by rw [b3];exact M.fresh j I, ?_, ?_, ?_⟩,bD⟩
 ·by_cases e:j=i
  ·subst e;exact ⟨k1,cU _ _ _⟩
  ·rw [bM _ _ e];exact M.lt j I
 ·have G:=M.cN b a6
  refine ⟨by rw [b3];exact G.1,fun ds=> ?_⟩
  rw [b0 b (fun e=>M.sep b a6 (e ▸ ⟨i,k0,hi,U,Z,rfl⟩))]
  exact G.2 ds
 ·intro a b c3 c5 ha hb G J O b6 b7
  have get:∀ j k,D j→a8 h i (some k1) j=some k→k.isLive=true→∃ ab,h j=some ab∧ab.isLive=true:=by
   intro j k I a7 ct
   by_cases e:j=i
   ·subst e;exact ⟨k0,U,Z⟩
   ·rw [bM _ _ e] at a7;exact ⟨k,a7,ct⟩
  obtain ⟨c4,e1,a1⟩:=get a c3 ha G O
  obtain ⟨c6,b4,b5⟩:=get b c5 hb J b6
  exact M.inj a b c4 c6 ha hb e1 b4 a1 b5 b7
 ·intro j k I G J bx
  by_cases e:j=i
  ·subst e
   rw [cU] at G
   cases G
   cases k1 with
   | row c ty st=>cases st <;> simp [bI.isLive,bI.iG] at b2 J
   | loop r=>simp [bI.iG] at J
  ·rw [bM _ _ e] at G
   exact M.db j k I G J (bx.elim .inl (fun h=> .inr ((b1 _).1 h)))
 ·intro j k I G
  by_cases e:j=i
  ·subst e
   rw [cU] at G
   cases G
   exact a7 (bD.keeps B0)
  ·rw [bM _ _ e] at G
   refine cO.mono (bD.keeps B0) (fun o c0 aE=>(b0 _ (fun a1=> ?_)).trans c0) (M.cJ j k I G)
   rcases aE with aE | aE
   ·exact e (M.inj j i k k0 I hi G U aE Z a1)
   ·exact M.db j k I G aE (.inr (a1 ▸ ⟨i,k0,hi,U,Z,rfl⟩))
theorem L4 (J:Ok P B0 w0 D α h w) {i:Nat} (hi:D i) {c c':an} {ty:TypeId} {st:sk} (aE:h i=some (.row c ty .live)) (b0:st= .dead∨st= .froz∧c'=c):
  Ok P B0 w0 D α (a8 h i (some (.row c' ty st))) w∧bA D D α α (aN D α h) (aN D α (a8 h i (some (.row c' ty st)))) w w:=by
 have bD:(bI.row c' ty st).isLive=false:=by rcases b0 with rfl | ⟨rfl,_⟩ <;> rfl
 have ab:∀ b,aN D α (a8 h i (some (.row c' ty st))) b→aN D α h b∧b≠(α i).1:=by
  rintro b ⟨j,b1,O,G,I,U⟩
  by_cases e:j=i
  ·subst e;rw [cU] at G;cases G;rw [bD] at I;cases I
  ·rw [bM _ _ e] at G
   exact ⟨⟨j,b1,O,G,I,U⟩,fun b5=>e (J.inj j i b1 _ O hi G aE I rfl (U.trans b5))⟩
 have a6:bA D D α α (aN D α h) (aN D α (a8 h i (some (.row c' ty st)))) w w:= ⟨fun _ h=>h,fun _ _=>rfl,fun b o G I=> ⟨fun h=>I (ab b h).1,G⟩⟩
 refine ⟨⟨fun j O=> ?_,J.below,J.cN,fun b ch M=>J.sep b ch (ab b M).1,J.fresh, ?_, ?_, ?_⟩,a6⟩
 ·by_cases e:j=i
  ·subst e;exact ⟨_,cU _ _ _⟩
  ·rw [bM _ _ e];exact J.lt j O
 ·intro a b b2 b3 ha hb G I U Z a1
  have b4:∀ j k,a8 h i (some (.row c' ty st)) j=some k→k.isLive=true→j≠i:=by
   rintro j k a7 bx rfl
   rw [cU] at a7
   cases a7
   rw [bD] at bx
   cases bx
  have b6:=b4 a b2 G U
  have b7:=b4 b b3 I Z
  rw [bM _ _ b6] at G
  rw [bM _ _ b7] at I
  exact J.inj a b b2 b3 ha hb G I U Z a1
 ·intro j k O G I M
  by_cases e:j=i
  ·subst e
   rcases M with M | M
   ·exact J.sep _ M ⟨j,_,hi,aE,rfl,rfl⟩
   ·exact (ab _ M).2 rfl
  ·rw [bM _ _ e] at G
   exact J.db j k O G I (M.elim .inl (fun h=> .inr (ab _ h).1))
 ·intro j k O G
  by_cases e:j=i
  ·subst e
   rw [cU] at G
   cases G
   rcases b0 with rfl | ⟨rfl,rfl⟩
   ·exact .inl rfl
   ·rcases J.cJ j _ hi aE with ct | ⟨cs,fr,G,I,U,Z,a1⟩
    ·cases ct
    ·exact .inr ⟨cs,fr,G,I,(fun h=>by cases h),Z,aj.mono _ _ (a6.keeps B0) a1⟩
  ·rw [bM _ _ e] at G
   exact cO.mono (a6.keeps B0) (fun o c0 _=>c0) (J.cJ j k O G)
theorem Zx (O:Ok P B0 w0 D α h w) {i n:Nat} (hi:D i) (eb:¬ D n) {c c':an} {ty:TypeId} (bx:h i=some (.row c ty .live)):
  Ok P B0 w0 (fz D n) (eU α n (α i)) (a8 (a8 h i (some (.row c' ty .dead))) n (some (.row c ty .live))) w∧bA D (fz D n) α (eU α n (α i)) (aN D α h) (aN (fz D n) (eU α n (α i)) (a8 (a8 h i (some (.row c' ty .dead))) n (some (.row c ty .live)))) w w:=by
 have M:∀ j,D j→j≠n:=fun j I e=>eb (e ▸ I)
 have b1:∀ b,aN (fz D n) (eU α n (α i)) (a8 (a8 h i (some (.row c' ty .dead))) n (some (.row c ty .live))) b↔aN D α h b:=by
  intro b
  constructor
  ·rintro ⟨j,Z,I | I,G,J,U⟩
   ·rw [bM _ _ (M j I)] at G
    rw [fj _ _ (M j I)] at U
    by_cases e:j=i
    ·subst e;rw [cU] at G;cases G;cases J
    ·rw [bM _ _ e] at G;exact ⟨j,Z,I,G,J,U⟩
   ·subst I;rw [eV] at U;exact ⟨i,_,hi,bx,rfl,U⟩
  ·rintro ⟨j,Z,I,G,J,U⟩
   by_cases e:j=i
   ·subst e;exact ⟨n,_, .inr rfl,cU _ _ _,rfl,by rw [eV];exact U⟩
   ·exact ⟨j,Z, .inl I,by rw [bM _ _ (M j I),bM _ _ e];exact G,J,by rw [fj _ _ (M j I)];exact U⟩
 have bD:bA D (fz D n) α (eU α n (α i)) (aN D α h) (aN (fz D n) (eU α n (α i)) (a8 (a8 h i (some (.row c' ty .dead))) n (some (.row c ty .live)))) w w:=
  ⟨fun _ h=> .inl h,fun j I=>fj _ _ (M j I),fun b o G J=> ⟨fun h=>J ((b1 b).1 h),G⟩⟩
 have b4:∀ j k,fz D n j→a8 (a8 h i (some (.row c' ty .dead))) n (some (.row c ty .live)) j=some k→k.isLive=true→∃ ab Z,D ab∧h ab=some Z∧Z.isLive=true∧(α ab).1=(eU α n (α i) j).1∧(ab=i↔j=n)∧(j≠n→ab=j):=by
  rintro j k (I | rfl) G J
  ·rw [bM _ _ (M j I)] at G
   have e:j≠i:=by
    rintro rfl
    rw [cU] at G
    cases G
    cases J
   rw [bM _ _ e] at G
   exact ⟨j,k,I,G,J,by rw [fj _ _ (M j I)], ⟨fun h=>absurd h e,fun h=>absurd h (M j I)⟩,fun _=>rfl⟩
  ·exact ⟨i,_,hi,bx,rfl,by rw [eV], ⟨fun _=>rfl,fun _=>rfl⟩,fun h=>absurd rfl h⟩
 refine ⟨⟨?_,O.below,O.cN,fun b ea a1=>O.sep b ea ((b1 b).1 a1), ?_, ?_, ?_, ?_⟩,bD⟩
 ·rintro j (I | rfl)
  ·rw [bM _ _ (M j I)]
   by_cases e:j=i
   ·subst e;exact ⟨_,cU _ _ _⟩
   ·rw [bM _ _ e];exact O.lt j I
  ·exact ⟨_,cU _ _ _⟩
 ·rintro j (I | rfl)
  ·rw [fj _ _ (M j I)];exact O.fresh j I
  ·rw [eV];exact O.fresh i hi
 ·intro a b ec eg ha hb G J U dx dy
  obtain ⟨a6,ed,b6,b7,ch,ct,b2,c0⟩:=b4 a ec ha G U
  obtain ⟨a7,eh,c3,c4,c5,c6,b3,c7⟩:=b4 b eg hb J dx
  have e:a6=a7:=O.inj a6 a7 ed eh b6 c3 b7 c4 ch c5 (ct.trans (dy.trans c6.symm))
  by_cases aE:a=n
  ·have:a7=i:=e ▸ b2.2 aE
   rw [aE,b3.1 this]
  ·by_cases b5:b=n
   ·have:a6=i:=e.symm ▸ b3.2 b5
    exact absurd (b2.1 this) aE
   ·rw [← c0 aE,← c7 b5,e]
 ·rintro j k (I | rfl) G J a1
  ·rw [bM _ _ (M j I)] at G
   rw [fj _ _ (M j I)] at a1
   by_cases e:j=i
   ·subst e;rw [cU] at G;cases G;cases J
   ·rw [bM _ _ e] at G
    exact O.db j k I G J (a1.elim .inl (fun h=> .inr ((b1 _).1 h)))
  ·rw [cU] at G;cases G;cases J
 ·rintro j k (I | rfl) G
  ·rw [bM _ _ (M j I)] at G
   rw [fj _ _ (M j I)]
   by_cases e:j=i
   ·subst e;rw [cU] at G;cases G;exact .inl rfl
   ·rw [bM _ _ e] at G
    exact cO.mono (bD.keeps B0) (fun o b0 _=>b0) (O.cJ j k I G)
  ·rw [cU] at G
   cases G
   rw [eV]
   exact cO.mono (bD.keeps B0) (fun o b0 _=>b0) (O.cJ i _ hi bx)
end
end Go.V
namespace Go.V
open Go Go.RowKit
def W (ro:Option Nat):Fence:= { Fence.wide with round:=ro }
section
variable {P : Program} {B0 : Nat → Prop} {w0 : World} {ro : Option Nat} {T : List AV} {o : Oper}
theorem si {a:Act} {w w':World} {K:Act→World→Prop} {Q:Exit→Act→World→Prop} {x:Value} (I:∀ c,o.op≠ .defer c) (J:(execOp a.eval o).run P w= .ok (.value x) w') (G:K (a.put o.dst x) w'):o.wpIn (W ro) 0 P a w K Q:=
 ⟨fun _ _=>trivial,by rw [Oper.semAt_eq _ _ _ I,J];exact G⟩
theorem ael {a:Act} {w w':World} {K:Act→World→Prop} {Q:Exit→Act→World→Prop} (I:∀ c,o.op≠ .defer c) (J:(execOp a.eval o).run P w= .ok .skip w') (G:K (a.put o.dst undef) w'):o.wpIn (W ro) 0 P a w K Q:=
 ⟨fun _ _=>trivial,by rw [Oper.semAt_eq _ _ _ I,J];exact G⟩
def HR (D:Nat→Prop) (h G:Hf) (n I:Nat) (rd:Bool):Prop:=(∀ i,n≤i→(i < I∨rd=true)→¬ D i)∧(rd=true→∀ i,D i→h i=G i)
def ow (P:Program) (B0:Nat→Prop) (w0:World) (J:Option Nat) (T:List AV) (o:Oper) (I h:Hf) (n G:Nat) (v:AV) (h':Hf) (rd:Bool):Prop:=
 ∀ (ro:Option Nat) (D:Nat→Prop) (α:Nat→Nat×Nat) (a:Act) (w:World) (K:Act→World→Prop) (Q:Exit→Act→World→Prop),Ok P B0 w0 D α h w→HR D h I n G rd→(∀ x ∈ o.op.operands,(aB T x).Rel P α (Own B0 D α h) w D (a.eval x))→
  (∀ D' α' w' x,Ok P B0 w0 D' α' h' w'→(∀ i,D' i→D i∨(n≤i∧i < G))→bA D D' α α' (aN D α h) (aN D' α' h') w w'→v.Rel P α' (Own B0 D' α' h') w' D' x→K (a.put o.dst x) w')→o.wpIn (W ro) 0 P a w K Q
def cA (h:Hf) (H G:Hp) (l:List (Nat×Bool)):Hf:=fun m=>if (m,true) ∈ l∨(H.length≤m∧m < G.length) then G[m]? else h m
def l8 (P:Program) (B0:Nat→Prop) (w0:World) (ro:Option Nat) (T:List AV) (o:Oper) (H:Hp) (v:AV) (G:Hp) (I:Tch):Prop:=
 H.length≤G.length∧match I with
 | .all=>ow P B0 w0 ro T o (H[·]?) (H[·]?) H.length G.length v (G[·]?) true
 | .some rd l=>(∀ m,m < H.length→(m,true) ∉ l→G[m]? =H[m]?)∧∀ h:Hf,(∀ m,(∃ b,(m,b) ∈ l)→m < H.length→h m=H[m]?)→ow P B0 w0 ro T o (H[·]?) h H.length G.length v (cA h H G l) rd
theorem l8.tv {H G:Hp} {v:AV} {M:Tch} (I:l8 P B0 w0 ro T o H v G M):ow P B0 w0 ro T o (H[·]?) (H[·]?) H.length G.length v (G[·]?) true:=by
 obtain ⟨a1,I⟩:=I
 cases M with
 | all=>exact I
 | some rd l=>
  have:=I.2 (H[·]?) (fun _ _ _=>rfl)
  have e:cA (H[·]?) H G l=(G[·]?):=by
   funext m
   unfold cA
   split
   ·rfl
   ·rename_i J
    by_cases ab:m < H.length
    ·exact (I.1 m ab (fun h=>J (.inl h))).symm
    ·have:¬ m < G.length:=fun h=>J (.inr ⟨by omega,h⟩)
     show H[m]? =G[m]?
     rw [List.getElem?_eq_none (by omega),List.getElem?_eq_none (by omega)]
  rw [e] at this
  exact fun ro D α a w K Q U aE Z O=>this ro D α a w K Q U ⟨fun i hi _=>aE.1 i hi (.inr rfl),fun _ _ _=>rfl⟩ Z O
theorem KO {H:Hp} {v:AV} {rd:Bool} {l:List (Nat×Bool)} (a7:∀ m,(m,true) ∈ l→m < H.length) (a1:∀ c,o.op≠ .defer c)
  (a6:∀ (h:Hf) (D:Nat→Prop) (α:Nat→Nat×Nat) (a:Act) (w:World),(∀ m b,(m,b) ∈ l→m < H.length→h m=H[m]?)→Ok P B0 w0 D α h w→(∀ x ∈ o.op.operands,(aB T x).Rel P α (Own B0 D α h) w D (a.eval x))→∃ x,(execOp a.eval o).run P w= .ok (.value x) w∧v.Rel P α (Own B0 D α h) w D x):
  l8 P B0 w0 ro T o H v H (.some rd l):=by
 refine ⟨Nat.le_refl _,fun _ _ _=>rfl,fun h J ro D α a w K Q I _ Z U=> ?_⟩
 obtain ⟨x,M,O⟩:=a6 h D α a w (fun m b aE ab=>J m ⟨b,aE⟩ ab) I Z
 have e:cA h H H l=h:=by
  funext m
  unfold cA
  split
  ·rename_i G
   rcases G with G | G
   ·exact (J m ⟨true,G⟩ (a7 m G)).symm
   ·omega
  ·rfl
 refine si a1 M (U D α w x (by rw [e];exact I) (fun i hi=> .inl hi) ?_ (by rw [e];exact O))
 rw [e]
 exact bA.refl _ _ _ _
theorem fF (v:AV) (m:Nat):(m,true) ∉ tid false v:=by
 cases v <;> simp [tid]
theorem CF {H:Hp} {v:AV} {k:bI} {rd:Bool} {l:List (Nat×Bool)} (a1:∀ m,(m,true) ∈ l→m < H.length) (ct:∀ c,o.op≠ .defer c) (b7:k.isLive=true)
  (c3:∀ (h:Hf) (D:Nat→Prop) (α:Nat→Nat×Nat) (a:Act) (w:World),(∀ m b,(m,b) ∈ l→m < H.length→h m=H[m]?)→Ok P B0 w0 D α h w→(∀ x ∈ o.op.operands,(aB T x).Rel P α (Own B0 D α h) w D (a.eval x))→
   ∃ (w1:World) (J:Obj) (sz:Nat) (x:Value),bm w.heap.size w w1∧(∀ ds,J≠ .deferred ds)∧(execOp a.eval o).run P w= .ok (.value x) (w1.alloc J)∧
    (∀ D' α' B' w',eY D D' α α' (Own B0 D α h) B' w w'→w'.heap[w1.heap.size]? =some J→cO P α' B' w' D' k (w1.heap.size,sz))∧
    (∀ D' α' B' w',D' H.length→α' H.length=(w1.heap.size,sz)→v.Rel P α' B' w' D' x)):
  l8 P B0 w0 ro T o H v (H ++ [k]) (.some rd l):=by
 refine ⟨by simp,fun m I _=>List.getElem?_append_left I,fun h aE ro D α a w K Q Z c0 b4 b1=> ?_⟩
 obtain ⟨w1,J,sz,x,a6,a7,bx,bD,b0⟩:=c3 h D α a w (fun m b I b6=>aE m ⟨b,I⟩ b6) Z b4
 have e:cA h H (H ++ [k]) l=a8 h H.length (some k):=by
  funext m
  unfold cA a8
  by_cases I:m=H.length
  ·subst I
   rw [if_pos (.inr ⟨Nat.le_refl _,by simp⟩),if_pos rfl]
   simp
  ·rw [if_neg I]
   split
   ·rename_i G
    rcases G with G | ⟨G,M⟩
    ·rw [List.getElem?_append_left (a1 m G)]
     exact (aE m ⟨true,G⟩ (a1 m G)).symm
    ·simp at M;omega
   ·rfl
 have ch:¬ D H.length:=c0.1 _ (Nat.le_refl _) (.inl (by simp))
 obtain ⟨b2,ab⟩:=nS Z a6
 obtain ⟨b3,b5⟩:=Da b2 ch (o:=J) a7 b7 (sz:=sz) (fun D' α' B' w' O hb=>bD D' α' B' w' ⟨O.le,O.same,fun b cs ty fr G M=>by
  have U:=(ab.keeps B0).row b cs ty fr G M
  exact O.row b cs ty fr U.2 U.1⟩ hb)
 refine si ct bx (b1 _ _ _ x (by rw [e];exact b3) ?_ ?_ (b0 (fz D H.length) (eU α H.length (w1.heap.size,sz)) _ _ (Or.inr rfl) (eV _ _ _)))
 ·rintro i (hi | rfl)
  ·exact .inl hi
  ·exact .inr ⟨Nat.le_refl _,by simp⟩
 ·rw [e];exact ab.trans b5
theorem KP {H:Hp} {v:AV} {k0 k:bI} {i:Nat} {rd:Bool} {l:List (Nat×Bool)} (hi:H[i]? =some k0) (M:∀ m,(m,true) ∈ l↔m=i) (a1:∀ c,o.op≠ .defer c) (b7:k0.isLive=true) (ch:k.isLive=true)
  (c0:∀ (h:Hf) (D:Nat→Prop) (α:Nat→Nat×Nat) (a:Act) (w:World),(∀ m b,(m,b) ∈ l→m < H.length→h m=H[m]?)→Ok P B0 w0 D α h w→(∀ x ∈ o.op.operands,(aB T x).Rel P α (Own B0 D α h) w D (a.eval x))→
   ∃ (w':World) (y:Value),D i∧w'.heap.size=w.heap.size∧(∀ b,b≠(α i).1→w'.heap[b]? =w.heap[b]?)∧(∀ B,B≤(α i).1→bm B w w')∧((execOp a.eval o).run P w= .ok .skip w'∧y=undef∨(execOp a.eval o).run P w= .ok (.value y) w')∧
    (∀ B',eY D D α α (Own B0 D α h) B' w w'→cO P α B' w' D k (α i))∧(∀ α' B' w' D',v.Rel P α' B' w' D' y)):
  l8 P B0 w0 ro T o H v (H.set i k) (.some rd l):=by
 have aE:i < H.length:=(List.getElem?_eq_some_iff.1 hi).1
 refine ⟨by simp,fun m G ct=> ?_,fun h ab ro D α a w K Q Z c3 b2 b0=> ?_⟩
 ·rw [List.getElem?_set_ne]
  rintro rfl
  exact ct ((M i).2 rfl)
 ·obtain ⟨w',y,bD,a6,a7,bx,I,J,O⟩:=c0 h D α a w (fun m b G b6=>ab m ⟨b,G⟩ b6) Z b2
  have e:cA h H (H.set i k) l=a8 h i (some k):=by
   funext m
   unfold cA a8
   by_cases G:m=i
   ·subst G
    rw [if_pos (.inl ((M m).2 rfl)),if_pos rfl,List.getElem?_set_self aE]
   ·rw [if_neg,if_neg G]
    rintro (J | ⟨J,O⟩)
    ·exact G ((M m).1 J)
    ·simp at O;omega
  have b4:h i=some k0:=(ab i ⟨true,(M i).2 rfl⟩ aE).trans hi
  obtain ⟨b1,b3⟩:=yu Z bD b4 b7 ch a6 a7 bx (fun b5=>J _ b5)
  have U:=b0 D α w' y (by rw [e];exact b1) (fun i hi=> .inl hi) (by rw [e];exact b3) (O _ _ _ _)
  rcases I with ⟨I,rfl⟩ | I
  ·exact ael a1 I U
  ·exact si a1 I U
theorem fH (b off k:Nat):(⟨b,off,none⟩:Addr).add k= ⟨b,off+k,none⟩:=by
 unfold Addr.add
 split
 ·rename_i h;subst h;rfl
 ·rfl
theorem me {w:World} {b:Nat} {cs:Array Value} {ty:TypeId} {fr:Nat×Nat} (h:w.heap[b]? =some (.cells cs ty fr)) (off:Nat):w.cell? ⟨b,off,none⟩=cs[off]? :=by
 simp [World.cell?,h]
theorem qT {t:TypeId} {d:TypeDesc} (h:P.underlying t=some d):∃ i,P.info? t=some i:=by
 unfold Program.underlying at h
 cases hi:P.info? t with
 | none=>rw [hi] at h;cases h
 | some i=>exact ⟨i,rfl⟩
theorem pH {t:TypeId} {d:TypeDesc} (h:P.underlying t=some d) (w:World):(isAgg t).run P w= .ok (dU P t) w:=by
 unfold isAgg dU
 simp only [Sem.run_bind,run_underlying h,Result.andThen,h]
 cases d <;> rfl
theorem NV {t:TypeId} {w:World} {b off:Nat} {cs:Array Value} {ty:TypeId} {fr:Nat×Nat} (ha:dU P t=true) (hb:w.heap[b]? =some (.cells cs ty fr)) (l:List Value) (J:l.length=P.cellsOf t)
  (h:∀ k y,l[k]? =some y→cs[off+k]? =some y):(loadVar t ⟨b,off,none⟩).run P w= .ok (.agg l.toArray) w:=by
 have M:∃ d,P.underlying t=some d:=by
  unfold dU at ha
  cases G:P.underlying t with
  | none=>rw [G] at ha;cases ha
  | some d=>exact ⟨d,rfl⟩
 obtain ⟨d,G⟩:=M
 obtain ⟨i,hi⟩:=qT G
 unfold loadVar
 simp only [Sem.run_bind,pH G,ha,Result.andThen,if_true,run_sizeOf w hi]
 rw [← J,run_loadCells_list w _ l (fun j v I=>by rw [fH,me hb];exact h j v I)]
 rfl
theorem NW {t:TypeId} {w:World} {b off:Nat} {cs:Array Value} {ty:TypeId} {fr:Nat×Nat} {d:TypeDesc} (G:P.underlying t=some d) (ha:dU P t=false) (hb:w.heap[b]? =some (.cells cs ty fr)) {y:Value}
  (h:cs[off]? =some y):(loadVar t ⟨b,off,none⟩).run P w= .ok y w:=by
 unfold loadVar
 simp only [Sem.run_bind,pH G,ha,Result.andThen,Bool.false_eq_true,if_false,run_load,me hb,h]
end
section
variable {R : Type}
theorem KG {c:an} {o:Nat} {k:AV→Option R} {r:R} (h:c.get o k=some r):∃ v,c.aW[o]? =some v∧k v=some r:=by
 cases c with
 | cells l=>
  simp only [an.get] at h
  cases I:l[o]? with
  | none=>rw [I] at h;cases h
  | some v=>rw [I] at h;exact ⟨v,I,h⟩
 | ints M zs=>
  simp only [an.get] at h
  cases G:decide (o < zs.length) with
  | false=>rw [G] at h;cases h
  | true=>
   rw [G] at h
   have J:=of_decide_eq_true G
   refine ⟨_, ?_,h⟩
   simp [an.aW,J]
 | vals vs=>
  simp only [an.get] at h
  cases G:decide (o < vs.length) with
  | false=>rw [G] at h;cases h
  | true=>
   rw [G] at h
   have J:=of_decide_eq_true G
   refine ⟨_, ?_,h⟩
   simp [an.aW,J]
theorem KH {c:an} :∀ (n o:Nat) {k:List AV→Option R} {r:R},c.CC n o k=some r→∃ vs,vs.length=n∧(∀ (j:Nat) (v:AV),vs[j]? =some v→c.aW[o+j]? =some v)∧k vs=some r
 | 0,o,k,r,h=> ⟨[],rfl,fun j v G=>by simp at G,h⟩
 | n+1,o,k,r,h=>by
  obtain ⟨v,I,J⟩:=KG h
  obtain ⟨vs,M,O,U⟩:=KH n (o+1) J
  refine ⟨v :: vs,by simp [M],fun j u G=> ?_,U⟩
  cases j with
  | zero=>simp only [List.getElem?_cons_zero,Option.some.injEq] at G;subst G;exact I
  | succ j=>rw [List.getElem?_cons_succ] at G;have:=O j u G;rwa [show o+(j+1)=o+1+j by omega]
end
section
variable {P : Program} {B0 : Nat → Prop} {w0 : World} {D : Nat → Prop} {α : Nat → Nat × Nat} {B : Nat → Prop} {h : Hf} {w : World}
theorem yR {v:AV} {y:Value} (J:v.Rel P α B w bc y):v.Rel P α B w D y:=AV.Rel.mono v y ⟨fun _ h=>h.elim,fun _ h=>h.elim,fun b cs ty fr G I=> ⟨I,G⟩⟩ J
theorem yh {R:Nat→Value→Prop} :∀ (n:Nat),(∀ q,q < n→∃ y,R q y)→∃ l:List Value,l.length=n∧∀ (q:Nat) (y:Value),l[q]? =some y→R q y
 | 0,_=> ⟨[],rfl,fun q y G=>by simp at G⟩
 | n+1,h=>by
  obtain ⟨l,I,J⟩:=yh n (fun q G=>h q (by omega))
  obtain ⟨y,O⟩:=h n (by omega)
  refine ⟨l ++ [y],by simp [I],fun q z G=> ?_⟩
  by_cases U:q < n
  ·rw [List.getElem?_append_left (by omega)] at G;exact J q z G
  ·rw [List.getElem?_append_right (by omega)] at G
   have M:q - l.length=0:=by
    rcases Nat.eq_zero_or_pos (q - l.length) with h | h
    ·exact h
    ·rw [List.getElem?_eq_none (by simp;omega)] at G;cases G
   rw [M] at G
   simp only [List.getElem?_cons_zero,Option.some.injEq] at G
   subst G
   have:q=n:=by omega
   rw [this];exact O
theorem rP {c:an} {cs:Array Value} (J:aj P α B w c.aW D (cs.toList.take c.len)) {o:Nat} {v:AV} (M:c.aW[o]? =some v):∃ y,cs[o]? =some y∧v.Rel P α B w D y:=by
 obtain ⟨y,G,I⟩:=aj.get J M
 rw [List.getElem?_take] at G
 split at G
 ·rw [Array.getElem?_toList] at G;exact ⟨y,G,I⟩
 ·cases G
theorem abi {c:an} {cs:Array Value} (aE:aj P α B w c.aW D (cs.toList.take c.len)) {vs:List AV} {o:Nat} (G:∀ (j:Nat) (v:AV),vs[j]? =some v→c.aW[o+j]? =some v):
  ∃ l:List Value,l.length=vs.length∧(∀ (k:Nat) (y:Value),l[k]? =some y→cs[o+k]? =some y)∧aj P α B w vs D l:=by
 obtain ⟨l,I,J⟩:=yh (R:=fun q y=>cs[o+q]? =some y∧∀ v,vs[q]? =some v→v.Rel P α B w D y) vs.length (fun q O=>by
  obtain ⟨y,U,Z⟩:=rP aE (G q vs[q] (List.getElem?_eq_getElem O))
  exact ⟨y,U,fun v G=>by rw [List.getElem?_eq_getElem O] at G;cases G;exact Z⟩)
 refine ⟨l,I,fun k y ab=>(J k y ab).1,aj.nO I (fun i v hi=> ?_)⟩
 have M:i < l.length:=by rw [I];exact (List.getElem?_eq_some_iff.1 hi).1
 exact ⟨l[i],List.getElem?_eq_getElem M,(J i l[i] (List.getElem?_eq_getElem M)).2 v hi⟩
theorem ig (I:Ok P B0 w0 D α h w) {i:Nat} (hi:D i) {c:an} {ty:TypeId} {st:sk} (G:h i=some (.row c ty st)) (O:(st== .dead)=false):
  ∃ cs fr,w.heap[(α i).1]? =some (.cells cs ty fr)∧cs.size=(α i).2∧(st= .live→∀ j,j < (α i).2→¬ (fr.1≤j∧j < fr.2))∧c.len≤(α i).2∧aj P α (Own B0 D α h) w c.aW D (cs.toList.take c.len):=by
 rcases I.cJ i _ hi G with J | M
 ·subst J;cases O
 ·exact M
theorem Lu {R:Type} {H:Hp} {t:TypeId} {p:AV} {k:AV→Option R} {r:R} (G:o6 P H t p k=some r):
  ∃ v,k v=some r∧∀ {B0:Nat→Prop} {w0:World} {D:Nat→Prop} {α:Nat→Nat×Nat} {h:Hf} {w:World} {x:Value},(∀ m b,(m,b) ∈ tid false p→m < H.length→h m=H[m]?)→Ok P B0 w0 D α h w→p.Rel P α (Own B0 D α h) w D x→
   ∃ b off y,x= .pointer (some ⟨b,off,none⟩)∧(loadVar t ⟨b,off,none⟩).run P w= .ok y w∧v.Rel P α (Own B0 D α h) w D y:=by
 cases p with
 | ptr i off=>
  simp only [o6] at G
  split at G
  ·rename_i c ty st b3
   cases a7:(st==sk.dead) with
   | true=>rw [a7] at G;cases G
   | false=>
    rw [a7] at G
    simp only [cond] at G
    have a1:=(List.getElem?_eq_some_iff.1 b3).1
    cases ha:dU P t with
    | true=>
     rw [ha] at G
     simp only at G
     obtain ⟨vs,c0,b1,b2⟩:=KH _ _ G
     refine ⟨_,b2,fun {B0 w0 D α h w x} aE ab I=> ?_⟩
     obtain ⟨hi,I⟩:=I
     have b0:h i=some (.row c ty st):=(aE i false (by simp [tid]) a1).trans b3
     obtain ⟨cs,fr,e1,bx,U,Z,bD⟩:=ig ab hi b0 a7
     obtain ⟨l,J,M,ct⟩:=abi bD b1
     exact ⟨_,_,_,I,NV ha e1 l (J.trans c0) M,l.toArray,rfl,by simpa using ct⟩
    | false=>
     rw [ha] at G
     simp only at G
     cases a6:(P.underlying t).isSome with
     | false=>rw [a6] at G;cases G
     | true=>
      rw [a6] at G
      simp only at G
      obtain ⟨d,b4⟩:=Option.isSome_iff_exists.1 a6
      obtain ⟨v,b1,b2⟩:=KG G
      refine ⟨_,b2,fun {B0 w0 D α h w x} aE ab I=> ?_⟩
      obtain ⟨hi,I⟩:=I
      have b0:h i=some (.row c ty st):=(aE i false (by simp [tid]) a1).trans b3
      obtain ⟨cs,fr,e1,bx,U,Z,bD⟩:=ig ab hi b0 a7
      obtain ⟨y,J,M⟩:=rP bD b1
      exact ⟨_,_,y,I,NW b4 ha e1 J,M⟩
  ·cases G
 | eptr c5 n f j off=>
  simp only [o6] at G
  cases ha:dU P t with
  | true=>
   rw [ha] at G
   simp only [cond] at G
   split at G
   ·rename_i O
    have O:=of_decide_eq_true O
    refine ⟨_,G,fun {B0 w0 D α h w x} aE ab I=> ?_⟩
    obtain ⟨b5,b,o,cs,ty,fr,e1,bx,U,Z⟩:=I
    obtain ⟨l,J,M⟩:=yh (R:=fun q y=>cs[o+j*P.cellsOf c5+(off+q)]? =some y∧(f j (off+q)).Rel P α (Own B0 D α h) w bc y) (P.cellsOf t) (fun q b7=>Z j (off+q) b5 (by omega))
    refine ⟨_,_,_,e1,NV ha U l J (fun k y c3=>by rw [Nat.add_assoc];exact (M k y c3).1),l.toArray,rfl, ?_⟩
    refine aj.nO (by simp [J]) (fun i v hi=> ?_)
    rw [List.getElem?_map] at hi
    cases b6:(List.range (P.cellsOf t))[i]? with
    | none=>rw [b6] at hi;cases hi
    | some q=>
     rw [b6] at hi
     cases hi
     have b7:=List.getElem?_eq_some_iff.1 b6
     obtain ⟨c4,ch⟩:=b7
     rw [List.length_range] at c4
     rw [List.getElem_range] at ch
     subst ch
     have a1:i < l.length:=by omega
     exact ⟨l[i],by simp [a1],yR (M i l[i] (List.getElem?_eq_getElem a1)).2⟩
   ·cases G
  | false=>
   rw [ha] at G
   simp only [cond] at G
   split at G
   ·rename_i a6
    obtain ⟨d,b4⟩:=Option.isSome_iff_exists.1 a6
    split at G
    ·rename_i O
     have O:=of_decide_eq_true O
     refine ⟨_,G,fun {B0 w0 D α h w x} aE ab I=> ?_⟩
     obtain ⟨b5,b,o,cs,ty,fr,e1,bx,U,Z⟩:=I
     obtain ⟨y,J,M⟩:=Z j off b5 O
     exact ⟨_,_,y,e1,NW b4 ha U J,yR M⟩
    ·cases G
   ·cases G
 | _=>simp [o6] at G
end
end Go.V
namespace Go.V
open Go Go.RowKit
def ba {R:Type} (P:Program) (ro:Option Nat) (T:List AV) (o:Oper) (H:Hp) (I:Tch) (lo:Nat) (k:Kn R) (r:R):Prop:=
 ∃ v G,k v G=some r∧(lo≤H.length→∀ m,m < lo→G[m]? =H[m]?)∧∀ B0 w0,l8 P B0 w0 ro T o H v G I
section
variable {R : Type} {P : Program} {ro : Option Nat} {T : List AV} {o : Oper} {H : Hp} {lo : Nat} {k : Kn R} {r : R}
theorem dO {v:AV} {l:List (Nat×Bool)} {rd:Bool} (G:k v H=some r) (M:∀ m,(m,true) ∉ l) (I:∀ c,o.op≠ .defer c)
  (J:∀ (B0:Nat→Prop) (w0:World) (h:Hf) (D:Nat→Prop) (α:Nat→Nat×Nat) (a:Act) (w:World),(∀ m b,(m,b) ∈ l→m < H.length→h m=H[m]?)→Ok P B0 w0 D α h w→(∀ x ∈ o.op.operands,(aB T x).Rel P α (Own B0 D α h) w D (a.eval x))→∃ x,(execOp a.eval o).run P w= .ok (.value x) w∧v.Rel P α (Own B0 D α h) w D x):
  ba P ro T o H (.some rd l) lo k r:= ⟨v,H,G,fun _ _ _=>rfl,fun B0 w0=>KO (fun m h=>absurd h (M m)) I (J B0 w0)⟩
theorem OB {x:Operand} (G:o.op= .move x∨o.op= .assign x) (J:k (aB T x) H=some r):ba P ro T o H (.some false []) lo k r:=by
 refine dO J (fun m h=>by simp at h) (fun c h=>by rcases G with G | G <;> rw [G] at h <;> cases h) (fun B0 w0 h D α a w _ O I=> ?_)
 have M:=I x (by rcases G with G | G <;> rw [G] <;> simp [Op.operands])
 exact ⟨a.eval x,by unfold execOp;rcases G with G | G <;> rw [G] <;> rfl,M⟩
theorem acq {c x y:Operand} (G:o.op= .pick c x y) (h:ER T c x y H k=some r):ba P ro T o H (.some false []) lo k r:=by
 unfold ER at h
 split at h
 ·rename_i b hb
  have O:∀ z,z=(bif b then x else y)→k (aB T z) H=some r→ba P ro T o H (.some false []) lo k r:=by
   intro z J Z
   refine dO Z (fun m h=>by simp at h) (fun c h=>by rw [G] at h;cases h) (fun B0 w0 h D α a w _ a1 I=> ?_)
   have M:=I c (by rw [G];simp [Op.operands])
   have ab:=I x (by rw [G];simp [Op.operands])
   have aE:=I y (by rw [G];simp [Op.operands])
   rw [hb] at M
   have U:a.eval c= .bool b:=M
   refine ⟨a.eval z, ?_, ?_⟩
   ·unfold execOp
    rw [G]
    simp only [U,asBool,Sem.run_bind,Sem.run_pure,Result.andThen]
    cases b <;> simp [J]
   ·cases b <;> simp only [cond] at J <;> rw [J] <;> assumption
  cases b
  ·exact O y rfl h
  ·exact O x rfl h
 ·cases h
theorem acm {t:TypeId} {x:Operand} (G:o.op= .load t x) (h:o6 P H t (aB T x) (fun v=>k v H)=some r):ba P ro T o H (.some false (tid false (aB T x))) lo k r:=by
 obtain ⟨v,I,J⟩:=Lu h
 refine dO I (fF _) (fun c h=>by rw [G] at h;cases h) (fun B0 w0 a6 D α a w aE U Z=> ?_)
 have a1:=Z x (by rw [G];simp [Op.operands])
 obtain ⟨b,off,y,ab,M,O⟩:=J aE U a1
 refine ⟨y, ?_,O⟩
 unfold execOp
 rw [G]
 simp only [ab,Instr.loadAt,Instr.sureAddr,Sem.run_bind,Sem.run_pure,Result.andThen,M]
theorem yW (b off:Nat) (ty:TypeId) (fr:Nat×Nat):∀ (vs:List Value) (i:Nat) (w:World) (cs:Array Value),w.heap[b]? =some (.cells cs ty fr)→off+i+vs.length≤cs.size→(∀ j,j < cs.size→¬ (fr.1≤j∧j < fr.2))→(∀ v ∈ vs,v.oneCell'=true)→
  ∃ w' G,(storeCells ⟨b,off,none⟩ vs i).run P w= .ok () w'∧w'.heap[b]? =some (.cells G ty fr)∧G.toList=cs.toList.take (off+i) ++ vs ++ cs.toList.drop (off+i+vs.length)∧(∀ k,k≠b→w'.heap[k]? =w.heap[k]?)∧(∀ B,B≤b→bm B w w')∧w'.heap.size=w.heap.size
 | [],i,w,cs,hb,Z,I,M=> ⟨w,cs,rfl,hb,by simp,fun _ _=>rfl,fun B _=>bm.refl B w,rfl⟩
 | v :: vs,i,w,cs,hb,Z,I,M=>by
  have aE:=M v List.mem_cons_self
  rw [List.length_cons] at Z
  have J:off+i < cs.size:=by omega
  have a6:w.cell? ⟨b,off+i,none⟩=some cs[off+i]:=by rw [me hb,Array.getElem?_eq_getElem J]
  have a7:w.frozen? ⟨b,off+i,none⟩=false:=by
   have:=I (off+i) J
   simp only [World.frozen?,hb]
   cases h:(decide (fr.1≤off+i)&&decide (off+i < fr.2)) with
   | false=>rfl
   | true=>rw [Bool.and_eq_true,decide_eq_true_eq,decide_eq_true_eq] at h;exact absurd h this
  have a1:(w.setCell ⟨b,off+i,none⟩ v).heap[b]? =some (.cells (cs.setIfInBounds (off+i) v) ty fr):=by
   simp only [World.setCell,Array.getElem?_modify,if_true,hb,Option.map_some]
   rfl
  obtain ⟨w',G,k1,bD,b0,b1,b2,b3⟩:=yW b off ty fr vs (i+1) (w.setCell ⟨b,off+i,none⟩ v) (cs.setIfInBounds (off+i) v) a1 (by rw [Array.size_setIfInBounds];omega) (by rw [Array.size_setIfInBounds];exact I) (fun u bx=>M u (List.mem_cons_of_mem _ bx))
  refine ⟨w',G, ?_,bD, ?_, ?_, ?_, ?_⟩
  ·rw [storeCells]
   simp only [Sem.run_bind,fH,run_store P w _ v .plain aE,a6,a7,Bool.false_eq_true,if_false,Result.andThen]
   exact k1
  ·rw [b0,Array.toList_setIfInBounds]
   have e1:(cs.toList.set (off+i) v).take (off+(i+1))=cs.toList.take (off+i) ++ [v]:=by
    rw [← Nat.add_assoc,List.take_add_one,List.take_set_of_le (Nat.le_refl _),List.getElem?_set_self (by simpa using J)]
    rfl
   have ab:(cs.toList.set (off+i) v).drop (off+(i+1)+vs.length)=cs.toList.drop (off+i+(v :: vs).length):=by
    rw [List.drop_set_of_lt (by omega),List.length_cons]
    congr 1
    omega
   rw [e1,ab,List.append_assoc (cs.toList.take (off+i)) [v] vs]
   rfl
  ·intro k U
   rw [b1 k U,Below.heap_setCell _ _ _ _ U]
  ·intro B O
   exact (bm.setCell (bm.refl B w) O v).trans (b2 B O)
  ·rw [b3,World.size_setCell]
theorem ZA {D:Nat→Prop} {α:Nat→Nat×Nat} {B:Nat→Prop} {w:World} {v:AV} {x:Value} (h:aS v=true) (k:v.Rel P α B w D x):x.oneCell'=true:=by
 cases v with
 | val v=>rw [show x=v from k];exact h
 | ptr i off=>obtain ⟨_,rfl⟩:=k;rfl
 | sl fl t i off n=>obtain ⟨_,cap,o,rfl,_⟩:=k;rfl
 | lst fl t n f=>obtain ⟨A,cap,rfl,_⟩:=k;rfl
 | eptr t n f j off=>obtain ⟨_,b,o,cs,ty,fr,rfl,_⟩:=k;rfl
 | clo G a b=>obtain ⟨I,J,rfl,_⟩:=k;rfl
 | yld i=>obtain ⟨_,rfl⟩:=k;rfl
 | _=>cases h
theorem aj.one {D:Nat→Prop} {α:Nat→Nat×Nat} {B:Nat→Prop} {w:World} :∀ {vs:List AV} {I:List Value},vs.all aS=true→aj P α B w vs D I→∀ y ∈ I,y.oneCell'=true
 | [],I,h,k,y,G=>by rw [show I= [] from k] at G;cases G
 | v :: vs,I,h,k,y,G=>by
  obtain ⟨z,zs,rfl,J,M⟩:=k
  rw [List.all_cons,Bool.and_eq_true] at h
  rcases List.mem_cons.1 G with rfl | G
  ·exact ZA h.1 J
  ·exact aj.one h.2 M y G
theorem Eo {α:Type} (l:List α) (o:Nat) (v:α) (h:o+1≤l.length):l.set o v=l.take o ++ [v] ++ l.drop (o+1):=by
 rw [List.set_eq_take_append_cons_drop,if_pos (by omega),List.append_assoc];rfl
theorem ad4 {l:List AV} (h:l.all isVal=true):(l.map lW).map AV.val=l:=by
 rw [List.map_map]
 conv=>rhs;rw [← List.map_id l]
 refine List.map_congr_left fun v G=> ?_
 have:=List.all_eq_true.1 h v G
 cases v <;> simp [isVal] at this
 rfl
theorem aac {J:Type} {c:an} {o:Nat} {l:List AV} {k:an→Option J} {r:J} (h:c.put o l k=some r):∃ c',k c'=some r∧c'.len=c.len∧o+l.length≤c.len∧c'.aW=c.aW.take o ++ l ++ c.aW.drop (o+l.length)∧l.all aS=true:=by
 unfold an.put at h
 cases ha:l.all aS with
 | false=>rw [ha] at h;cases h
 | true=>
  rw [ha] at h
  simp only [cond] at h
  split at h
  ·rename_i cN
   split at h
   ·rename_i G
    have G:=of_decide_eq_true G
    split at h
    ·rename_i v
     refine ⟨_,h,by simp [an.len],G, ?_,rfl⟩
     simp only [an.aW]
     exact Eo _ _ _ G
    ·refine ⟨_,h, ?_,G,rfl,rfl⟩
     simp only [an.len,List.length_append,List.length_take,List.length_drop]
     omega
   ·cases h
  ·rename_i M zs
   split at h
   ·rename_i O z
    split at h
    ·rename_i I
     have I:=of_decide_eq_true I
     subst I
     split at h
     ·rename_i G
      have G:=of_decide_eq_true G
      refine ⟨_,h,by simp [an.len],G, ?_,rfl⟩
      simp only [an.aW,List.map_set]
      exact Eo _ _ _ (by rw [List.length_map];exact G)
     ·cases h
    ·cases h
   ·cases h
  ·rename_i vs
   split at h
   ·rename_i v
    split at h
    ·rename_i G
     have G:=of_decide_eq_true G
     refine ⟨_,h,by simp [an.len],G, ?_,rfl⟩
     simp only [an.aW,List.map_set]
     exact Eo _ _ _ (by rw [List.length_map];exact G)
    ·cases h
   ·split at h
    ·rename_i G
     rw [Bool.and_eq_true,decide_eq_true_eq] at G
     refine ⟨_,h, ?_,G.2, ?_,rfl⟩
     ·simp only [an.len,List.length_append,List.length_take,List.length_drop,List.length_map]
      omega
     ·simp only [an.aW,List.map_append,List.map_take,List.map_drop]
      rw [ad4 G.1]
    ·cases h
theorem BP {D:Nat→Prop} {α:Nat→Nat×Nat} {B:Nat→Prop} {w:World} {v:AV} {x:Value} {l:List AV} (h:sM v=some l) (G:v.Rel P α B w D x):aj P α B w l D x.cells.toList:=by
 cases v with
 | val v=>cases h;rw [show x=v from G];exact aj.vals _
 | ptr i off=>cases h;obtain ⟨J,rfl⟩:=G;exact ⟨_, [],rfl, ⟨J,rfl⟩,rfl⟩
 | sl fl t i off n=>
  cases h
  have I:x.cells= #[x]:=by obtain ⟨_,cap,o,rfl,_⟩:=G;rfl
  rw [I];exact ⟨x, [],rfl,G,rfl⟩
 | lst fl t n f=>
  cases h
  have I:x.cells= #[x]:=by obtain ⟨A,cap,rfl,_⟩:=G;rfl
  rw [I];exact ⟨x, [],rfl,G,rfl⟩
 | eptr t n f j off=>
  cases h
  have I:x.cells= #[x]:=by obtain ⟨_,b,o,cs,ty,fr,rfl,_⟩:=G;rfl
  rw [I];exact ⟨x, [],rfl,G,rfl⟩
 | clo U a b=>
  cases h
  have I:x.cells= #[x]:=by obtain ⟨Z,O,rfl,_⟩:=G;rfl
  rw [I];exact ⟨x, [],rfl,G,rfl⟩
 | yld i=>cases h;obtain ⟨J,rfl⟩:=G;exact ⟨_, [],rfl, ⟨J,rfl⟩,rfl⟩
 | agg cs=>cases h;obtain ⟨O,rfl,M⟩:=G;exact M
 | _=>cases h
theorem O4 {β:Type} (X Y:List β) {off n m:Nat} (I:Y.length=n) (h:off+n≤m) (J:m≤X.length):(X.take off ++ Y ++ X.drop (off+n)).take m=(X.take m).take off ++ Y ++ (X.take m).drop (off+n):=by
 have e1:(X.take m).take off=X.take off:=by rw [List.take_take,Nat.min_eq_left (by omega)]
 have G:(X.take m).drop (off+n)=(X.drop (off+n)).take (m - (off+n)):=List.drop_take
 have l1:(X.take off ++ Y).length=off+n:=by rw [List.length_append,List.length_take,Nat.min_eq_left (by omega),I]
 rw [e1,G,List.take_append,l1,List.take_of_length_le (by omega)]
theorem acw {t:TypeId} {x y:Operand} (I:o.op= .store t x y) (h:E8 P lo H t (aB T x) (aB T y) (fun b2=>k (.val undef) b2)=some r):ba P ro T o H (.some false (tid true (aB T x))) lo k r:=by
 unfold E8 at h
 split at h
 ·rename_i i off M
  cases G:decide (i < lo) with
  | true=>rw [G] at h;cases h
  | false=>
   rw [G] at h
   simp only [cond] at h
   have G:=of_decide_eq_false G
   split at h
   ·rename_i c ty l J c5
    split at h
    ·rename_i a7
     rw [Bool.and_eq_true,beq_iff_eq] at a7
     obtain ⟨eu,c3⟩:=a7
     obtain ⟨ti,eg⟩:=Option.isSome_iff_exists.1 c3
     obtain ⟨c',k1,ek,en,eo,ep⟩:=aac h
     have eb:=(List.getElem?_eq_some_iff.1 J).1
     refine ⟨_,_,k1,fun _ m ev=>List.getElem?_set_ne (by omega),fun B0 w0=>KP J (fun m=>by rw [M];simp [tid]) (fun c h=>by rw [I] at h;cases h) rfl rfl (fun c7 D α a w dx c4 a6=> ?_)⟩
     have b0:=a6 x (by rw [I];simp [Op.operands])
     have eh:=a6 y (by rw [I];simp [Op.operands])
     rw [M] at b0
     obtain ⟨hi,c6⟩:=b0
     have c0:c7 i=some (.row c ty .live):=(dx i true (by rw [M];simp [tid]) eb).trans J
     obtain ⟨cs,fr,e1,b3,Z,et,ab⟩:=ig c4 hi c0 rfl
     have O:=BP c5 eh
     have bD:=aj.len O
     rw [Array.length_toList] at bD
     have ea:=aj.len ab
     rw [List.length_take,Array.length_toList,an.eZ] at ea
     obtain ⟨w',U,b5,b6,a1,b7,ch,ct⟩:=yW (P:=P) (α i).1 off ty fr (a.eval y).cells.toList 0 w cs e1 (by rw [Array.length_toList];omega) (by rw [b3];exact Z rfl) (aj.one ep O)
     have ec:(execOp a.eval o).run P w= .ok .skip w':=by
      have ed:¬ (a.eval y).cells.size≠P.cellsOf t:=by omega
      unfold execOp
      rw [I]
      simp only [c6,Instr.storeAt,Instr.sureAddr,storeVar,Sem.run_bind,Sem.run_pure,Result.andThen,run_sizeOf w eg,ed,if_false,b5]
     have ez:U.size=cs.size:=by
      have:=congrArg List.length a1
      simp only [Array.length_toList,List.length_append,List.length_take,List.length_drop] at this
      omega
     refine ⟨w',undef,hi,ct,b7,ch, .inl ⟨ec,rfl⟩,fun B' bx=> .inr ⟨U,fr,b6,by omega,Z,by omega, ?_⟩,fun _ _ _ _=>rfl⟩
     have aE:=aj.mono _ _ bx ab
     have dy:=aj.mono _ _ bx O
     rw [eo,a1,Nat.add_zero]
     have b1:(a.eval y).cells.toList.length=l.length:=by rw [Array.length_toList];exact bD
     have b4:(List.take off cs.toList ++ (a.eval y).cells.toList ++ List.drop (off+(a.eval y).cells.toList.length) cs.toList).take c'.len=(cs.toList.take c.len).take off ++ (a.eval y).cells.toList ++ (cs.toList.take c.len).drop (off+l.length):=by
      rw [ek,b1]
      exact O4 _ _ b1 en (by rw [Array.length_toList];omega)
     rw [b4]
     exact aj.append (aj.append (aj.take aE _) dy) (aj.drop aE _)
    ·cases h
   ·cases h
 ·cases h
end
end Go.V
namespace Go.V
open Go Go.RowKit
section
variable {R : Type} {P : Program} {ro : Option Nat} {T : List AV} {o : Oper} {H : Hp} {lo : Nat} {k : Kn R} {r : R}
theorem fg {v:AV} (I:k v H=some r) (J:∀ c,o.op≠ .defer c)
  (M:∀ (D:Nat→Prop) (α:Nat→Nat×Nat) (B:Nat→Prop) (a:Act) (w:World),(∀ x ∈ o.op.operands,(aB T x).Rel P α B w D (a.eval x))→∃ x,(execOp a.eval o).run P w= .ok (.value x) w∧v.Rel P α B w D x):
  ba P ro T o H (.some false []) lo k r:=dO I (fun m h=>by simp at h) J (fun B0 w0 h D α a w _ _ G=>M D α _ a w G)
theorem vE {t e:TypeId} (h:ky P t=some e):P.underlying t=some (.slice e):=by
 unfold ky at h
 split at h
 ·rename_i I G;cases h;exact G
 ·cases h
theorem CO {t:TypeId} {G:IntKind} (h:intKind P t=some G):P.underlying t=some (.int G):=by
 unfold intKind at h
 split at h
 ·rename_i J I;cases h;exact I
 ·cases h
theorem acf {s f:Nat} {x:Operand} (U:o.op= .fieldAddr s x f) (h:EM P s f (aB T x) H k=some r):ba P ro T o H (.some false []) lo k r:=by
 unfold EM at h
 split at h
 ·rename_i v G
  refine fg h (fun c h=>by rw [U] at h;cases h) (fun D α B a w a6=> ?_)
  have I:=a6 x (by rw [U];simp [Op.operands])
  unfold Km at G
  split at G
  ·rename_i b1 bD
   split at G
   ·rename_i fd bx
    cases Z:(P.cellsOf fd.type==0) with
    | true=>rw [Z] at G;cases G
    | false=>
     rw [Z] at G
     simp only [cond] at G
     have aE:¬ P.cellsOf fd.type=0:=by simpa using Z
     have hi:∃ i,P.info? fd.type=some i:=by
      cases hi:P.info? fd.type with
      | none=>exact absurd (by simp [Program.cellsOf,hi]) aE
      | some i=>exact ⟨i,rfl⟩
     obtain ⟨i,hi⟩:=hi
     have ab:∀ b off,a.eval x= .pointer (some ⟨b,off,none⟩)→(execOp a.eval o).run P w= .ok (.value (.pointer (some ⟨b,off+fd.offset,none⟩))) w:=by
      intro b off a7
      unfold execOp
      rw [U]
      simp only [a7,Instr.fieldAt,Sem.run_bind,run_underlying bD,Result.andThen,bx,Instr.sureAddr,Sem.run_pure,Go.fieldPlace,run_sizeOf w hi,aE,if_false,fH]
     split at G
     ·rename_i i off O
      cases G
      rw [O] at I
      obtain ⟨J,M⟩:=I
      exact ⟨_,ab _ _ M,J,rfl⟩
     ·rename_i b2 n g j off O
      cases G
      rw [O] at I
      obtain ⟨a1,b,b0,cs,ty,fr,J,M⟩:=I
      exact ⟨_,ab _ _ J,a1,b,b0,cs,ty,fr,by rw [Nat.add_assoc],M⟩
     ·cases G
   ·cases G
  ·cases G
 ·cases h
theorem Mm {t:TypeId} {cs:List AV} {off:Nat} {U:AV→Option R} (h:uh P t cs off U=some r):∃ v,U v=some r∧∀ {D:Nat→Prop} {α:Nat→Nat×Nat} {B:Nat→Prop} {w:World} {G:Array Value},aj P α B w cs D G.toList→∃ y,(part t G off).run P w= .ok y w∧v.Rel P α B w D y:=by
 unfold uh at h
 simp only [Bool.cond_eq_ite] at h
 cases ha:dU P t with
 | true=>
  rw [ha,if_pos rfl] at h
  refine ⟨_,h,fun {D α B w G} J=> ?_⟩
  have M:∃ d,P.underlying t=some d:=by
   unfold dU at ha
   cases I:P.underlying t with
   | none=>rw [I] at ha;cases ha
   | some d=>exact ⟨d,rfl⟩
  obtain ⟨d,I⟩:=M
  obtain ⟨i,hi⟩:=qT I
  refine ⟨.agg (G.extract off (off+P.cellsOf t)), ?_,_,rfl, ?_⟩
  ·unfold part
   simp only [Sem.run_bind,pH I,ha,Result.andThen,if_true,run_sizeOf w hi,Sem.run_pure]
  ·have:(G.extract off (off+P.cellsOf t)).toList=(G.toList.drop off).take (P.cellsOf t):=by
    rw [Array.toList_extract,List.extract_eq_take_drop,Nat.add_sub_cancel_left]
   rw [this]
   exact aj.take (aj.drop J _) _
 | false=>
  rw [ha,if_neg (by decide)] at h
  split at h
  ·rename_i M
   obtain ⟨d,I⟩:=Option.isSome_iff_exists.1 M
   split at h
   ·rename_i v ab
    refine ⟨_,h,fun {D α B w G} J=> ?_⟩
    obtain ⟨y,O,Z⟩:=aj.get J ab
    rw [Array.getElem?_toList] at O
    refine ⟨y, ?_,Z⟩
    unfold part
    simp only [Sem.run_bind,pH I,ha,Result.andThen,Bool.false_eq_true,if_false,O,Sem.run_pure]
   ·cases h
  ·cases h
theorem acg {s f:Nat} {x:Operand} (G:o.op= .field s x f) (h:Cq P s f (aB T x) (fun v=>k v H)=some r):ba P ro T o H (.some false []) lo k r:=by
 unfold Cq at h
 split at h
 ·rename_i bx cs a7 aE
  split at h
  ·rename_i fd a1
   obtain ⟨v,J,M⟩:=Mm h
   refine fg J (fun c h=>by rw [G] at h;cases h) (fun D α B a w Z=> ?_)
   have I:=Z x (by rw [G];simp [Op.operands])
   rw [aE] at I
   obtain ⟨bD,ab,a6⟩:=I
   obtain ⟨y,O,U⟩:=M a6
   refine ⟨y, ?_,U⟩
   unfold execOp
   rw [G]
   simp only [ab,Instr.field,asAgg,Sem.run_bind,run_underlying a7,Result.andThen,a1,Sem.run_pure,O]
  ·cases h
 ·cases h
theorem acj {t:TypeId} {x O:Operand} (G:o.op= .indexAddr t x O) (h:CK P t (aB T x) (aB T O) (fun v=>k v H)=some r):ba P ro T o H (.some false []) lo k r:=by
 unfold CK at h
 simp only [Bool.cond_eq_ite] at h
 have b2:∀ c,o.op≠ .defer c:=fun c h=>by rw [G] at h;cases h
 split at h
 ·rename_i e fl b3 n f bx z a6 aE ab
  split at h
  ·rename_i b0
   rw [Bool.and_eq_true,beq_iff_eq] at b0
   obtain ⟨rfl,a1⟩:=b0
   split at h
   ·rename_i hb
    rw [Bool.and_eq_true,decide_eq_true_eq,decide_eq_true_eq] at hb
    refine fg h b2 (fun D α B a w M=> ?_)
    have I:=M x (by rw [G];simp [Op.operands])
    have J:=M O (by rw [G];simp [Op.operands])
    rw [aE] at I
    rw [ab] at J
    have U:a.eval O= .int bx z:=J
    obtain ⟨ti,a7⟩:=Option.isSome_iff_exists.1 a1
    obtain ⟨A,cap,Z,ch,_,b1⟩:=I
    rcases b1 with b1 | ⟨b,bD,cs,ty,fr,rfl,b5,b6,b7⟩
    ·omega
    refine ⟨.pointer (some ⟨b,bD+z.toNat*P.cellsOf e,none⟩), ?_,by omega,b,bD,cs,ty,fr,by rw [Nat.add_zero],b5,b6,b7⟩
    unfold execOp
    rw [G]
    simp only [Z,U,Instr.indexAt,asIntOf,Sem.run_bind,Sem.run_pure,Result.andThen,run_underlying a6,hb,and_self,if_true,run_sizeOf w a7,fH]
   ·cases h
  ·cases h
 ·rename_i e fl b3 i off n bx z a6 aE ab
  split at h
  ·rename_i b0
   rw [Bool.and_eq_true,beq_iff_eq] at b0
   obtain ⟨rfl,a1⟩:=b0
   split at h
   ·rename_i hb
    rw [Bool.and_eq_true,decide_eq_true_eq,decide_eq_true_eq] at hb
    refine fg h b2 (fun D α B a w M=> ?_)
    have I:=M x (by rw [G];simp [Op.operands])
    have J:=M O (by rw [G];simp [Op.operands])
    rw [aE] at I
    rw [ab] at J
    have U:a.eval O= .int bx z:=J
    obtain ⟨ti,a7⟩:=Option.isSome_iff_exists.1 a1
    obtain ⟨hi,cap,bD,Z,ch,_,b1⟩:=I
    rcases b1 with b1 | ⟨rfl,_⟩
    ·omega
    refine ⟨.pointer (some ⟨(α i).1,bD+z.toNat*P.cellsOf e,none⟩), ?_,hi,rfl⟩
    unfold execOp
    rw [G]
    simp only [Z,U,Instr.indexAt,asIntOf,Sem.run_bind,Sem.run_pure,Result.andThen,run_underlying a6,hb,and_self,if_true,run_sizeOf w a7,fH]
   ·cases h
  ·cases h
 ·rename_i n e i off bx z a6 aE ab
  split at h
  ·rename_i a1
   split at h
   ·rename_i hb
    rw [Bool.and_eq_true,decide_eq_true_eq,decide_eq_true_eq] at hb
    refine fg h b2 (fun D α B a w M=> ?_)
    have I:=M x (by rw [G];simp [Op.operands])
    have J:=M O (by rw [G];simp [Op.operands])
    rw [aE] at I
    rw [ab] at J
    have U:a.eval O= .int bx z:=J
    obtain ⟨ti,a7⟩:=Option.isSome_iff_exists.1 a1
    obtain ⟨hi,Z⟩:=I
    refine ⟨.pointer (some ⟨(α i).1,off+z.toNat*P.cellsOf e,none⟩), ?_,hi,rfl⟩
    unfold execOp
    rw [G]
    simp only [Z,U,Instr.indexAt,Instr.sureAddr,asIntOf,Sem.run_bind,Sem.run_pure,Result.andThen,run_underlying a6,hb,and_self,if_true,run_sizeOf w a7,fH]
   ·cases h
  ·cases h
 ·rename_i n e b3 m f j off bx z a6 aE ab
  split at h
  ·rename_i a1
   split at h
   ·rename_i hb
    rw [Bool.and_eq_true,decide_eq_true_eq,decide_eq_true_eq] at hb
    refine fg h b2 (fun D α B a w M=> ?_)
    have I:=M x (by rw [G];simp [Op.operands])
    have J:=M O (by rw [G];simp [Op.operands])
    rw [aE] at I
    rw [ab] at J
    have U:a.eval O= .int bx z:=J
    obtain ⟨ti,a7⟩:=Option.isSome_iff_exists.1 a1
    obtain ⟨b4,b,bD,cs,ty,fr,Z,ct⟩:=I
    refine ⟨.pointer (some ⟨b,bD+j*P.cellsOf b3+off+z.toNat*P.cellsOf e,none⟩), ?_,b4,b,bD,cs,ty,fr,by rw [Nat.add_assoc],ct⟩
    unfold execOp
    rw [G]
    simp only [Z,U,Instr.indexAt,Instr.sureAddr,asIntOf,Sem.run_bind,Sem.run_pure,Result.andThen,run_underlying a6,hb,and_self,if_true,run_sizeOf w a7,fH]
   ·cases h
  ·cases h
 ·cases h
theorem UN {I:IntKind} {v:AV} {z:Int} (h:B3 I v=some z):v= .val (.int I z):=by
 unfold B3 at h
 simp only [Bool.cond_eq_ite] at h
 split at h
 ·rename_i J M
  split at h
  ·rename_i G;have G:=of_decide_eq_true G;subst G;cases h;rfl
  ·cases h
 ·cases h
theorem qH {G:IntKind} :∀ {l:List AV} {zs:List Int},mj G l=some zs→l=zs.map fun z=> .val (.int G z)
 | [],zs,h=>by cases h;rfl
 | v :: l,zs,h=>by
  simp only [mj] at h
  split at h
  ·rename_i z I
   split at h
   ·rename_i M J
    cases h
    rw [List.map_cons,← qH J,UN I]
   ·cases h
  ·cases h
theorem Sh (s:ByteArray) (i:Nat) (h:i < s.size):∃ b,s[i]? =some b∧(b.toNat:Int)=aT s i:=by
 have hi:i < s.data.toList.length:=by rw [Array.length_toList];exact h
 refine ⟨s[i],Go.ByteArray.getElem?_lt' s i h, ?_⟩
 unfold aT
 rw [List.getD_eq_getElem?_getD,List.getElem?_eq_getElem hi]
 rfl
theorem aci {t:TypeId} {x M:Operand} (J:o.op= .index t x M) (h:CJ P t (aB T x) (aB T M) (fun v=>k v H)=some r):ba P ro T o H (.some false []) lo k r:=by
 unfold CJ at h
 simp only [Bool.cond_eq_ite] at h
 have b5:∀ c,o.op≠ .defer c:=fun c h=>by rw [J] at h;cases h
 split at h
 ·rename_i s b2 z b1 bD bx
  split at h
  ·rename_i hb
   rw [Bool.and_eq_true,decide_eq_true_eq,decide_eq_true_eq] at hb
   refine fg h b5 (fun D α B a w O=> ?_)
   have G:=O x (by rw [J];simp [Op.operands])
   have I:=O M (by rw [J];simp [Op.operands])
   rw [bD] at G
   rw [bx] at I
   have a6:a.eval M= .int b2 z:=I
   have b6:a.eval x= .string s:=G
   obtain ⟨b,b7,ch⟩:=Sh s z.toNat (by omega)
   refine ⟨.int .u8 (aT s z.toNat), ?_,rfl⟩
   unfold execOp
   rw [J]
   simp only [b6,a6,Instr.index,asIntOf,Sem.run_bind,Sem.run_pure,Result.andThen,run_underlying b1,hb.1,if_true,b7,ch]
  ·cases h
 ·rename_i n e cs b2 z b1 bD bx
  split at h
  ·rename_i hb
   rw [Bool.and_eq_true,decide_eq_true_eq,decide_eq_true_eq] at hb
   have go:∀ {v:AV},k v H=some r→(∀ {D:Nat→Prop} {α:Nat→Nat×Nat} {B:Nat→Prop} {w:World} {a1:Array Value},aj P α B w cs D a1.toList→∃ y,(part e a1 (z.toNat*P.cellsOf e)).run P w= .ok y w∧v.Rel P α B w D y)→(∃ ti,P.info? e=some ti)→ba P ro T o H (.some false []) lo k r:=by
    intro v c3 c7 U
    refine fg c3 b5 (fun D α B a w O=> ?_)
    have G:=O x (by rw [J];simp [Op.operands])
    have I:=O M (by rw [J];simp [Op.operands])
    rw [bD] at G
    rw [bx] at I
    have a6:a.eval M= .int b2 z:=I
    obtain ⟨a1,ct,b0⟩:=G
    obtain ⟨y,ab,a7⟩:=c7 b0
    obtain ⟨ti,U⟩:=U
    refine ⟨y, ?_,a7⟩
    unfold execOp
    rw [J]
    simp only [ct,a6,Instr.index,asIntOf,Sem.run_bind,Sem.run_pure,Result.andThen,run_underlying b1,hb,and_self,if_true,run_sizeOf w U,ab]
   split at h
   ·rename_i dy c4
    split at h
    ·rename_i zs dx
     split at h
     ·rename_i b3
      rw [Bool.and_eq_true,beq_iff_eq,beq_iff_eq] at b3
      have Z:=CO c4
      obtain ⟨ti,U⟩:=qT Z
      refine go h (fun {D α B w a1} b0=> ?_) ⟨ti,U⟩
      have c5:=qH dx
      have b4:z.toNat < zs.length:=by omega
      have c0:cs[z.toNat]? =some (.val (.int dy (zs.getD z.toNat 0))):=by
       rw [c5,List.getElem?_map,List.getElem?_eq_getElem b4,List.getD_eq_getElem?_getD,List.getElem?_eq_getElem b4];rfl
      obtain ⟨y,ab,a7⟩:=aj.get b0 c0
      rw [Array.getElem?_toList] at ab
      refine ⟨y, ?_,a7⟩
      have c6:dU P e=false:=by unfold dU;rw [Z]
      unfold part
      rw [b3.1,Nat.mul_one]
      simp only [Sem.run_bind,pH Z,c6,Result.andThen,Bool.false_eq_true,if_false,ab,Sem.run_pure]
     ·cases h
    ·cases h
   ·obtain ⟨v,G,I⟩:=Mm h
    refine go G I ?_
    unfold uh at h
    simp only [Bool.cond_eq_ite] at h
    cases ha:dU P e with
    | true=>
     unfold dU at ha
     cases aE:P.underlying e with
     | none=>rw [aE] at ha;cases ha
     | some d=>exact qT aE
    | false=>
     rw [ha,if_neg (by decide)] at h
     split at h
     ·rename_i Z
      obtain ⟨d,aE⟩:=Option.isSome_iff_exists.1 Z
      exact qT aE
     ·cases h
  ·cases h
 ·cases h
theorem acp {x:Operand} (U:o.op= .nilCheck x) (h:EO (aB T x) H k=some r):ba P ro T o H (.some false []) lo k r:=by
 unfold EO at h
 have a1:∀ c,o.op≠ .defer c:=fun c h=>by rw [U] at h;cases h
 have go:∀ {v:AV},aB T x=v→k v H=some r→(∀ {D:Nat→Prop} {α:Nat→Nat×Nat} {B:Nat→Prop} {w:World} {y:Value},v.Rel P α B w D y→(∃ a,y= .pointer (some a))∨(∃ g J M,y= .func (.func g) J M)∨(∃ l,y= .func (.yield l) #[] #[]))→ba P ro T o H (.some false []) lo k r:=by
  intro v G ab aE
  refine fg ab a1 (fun D α B a w Z=> ?_)
  have O:=Z x (by rw [U];simp [Op.operands])
  rw [G] at O
  refine ⟨a.eval x, ?_,O⟩
  unfold execOp
  rw [U]
  rcases aE O with ⟨b,e⟩ | ⟨g,J,M,e⟩ | ⟨l,e⟩ <;> simp only [e,Sem.run_pure]
 split at h
 ·rename_i i off G;exact go G h (fun I=> .inl ⟨_,I.2⟩)
 ·rename_i t n f j off G;exact go G h (fun I=>by obtain ⟨_,b,a6,cs,ty,fr,e,_⟩:=I;exact .inl ⟨_,e⟩)
 ·rename_i g a b G;exact go G h (fun I=>by obtain ⟨J,M,e,_⟩:=I;exact .inr (.inl ⟨g,J,M,e⟩))
 ·rename_i i G;exact go G h (fun I=> .inr (.inr ⟨_,I.2⟩))
 ·rename_i g a b G;exact go G h (fun I=> .inr (.inl ⟨g,_,_,I⟩))
 ·cases h
theorem yQ {D:Nat→Prop} {α:Nat→Nat×Nat} {B:Nat→Prop} {w:World} {a:Act} :∀ (l:List Operand),(∀ x ∈ l,(aB T x).Rel P α B w D (a.eval x))→aj P α B w (l.map (aB T)) D (l.map a.eval)
 | [],_=>rfl
 | x :: l,h=> ⟨_,_,rfl,h x List.mem_cons_self,yQ l (fun y G=>h y (List.mem_cons_of_mem _ G))⟩
theorem aco {I:Fn} {x y:Array Operand} (G:o.op= .makeFunc I x y) (h:k (.clo I (x.toList.map (aB T)) (y.toList.map (aB T))) H=some r):ba P ro T o H (.some false []) lo k r:=by
 refine fg h (fun c h=>by rw [G] at h;cases h) (fun D α B a w M=> ?_)
 refine ⟨.func I (x.map a.eval) (y.map a.eval), ?_,_,_,rfl, ?_, ?_⟩
 ·unfold execOp;rw [G];rfl
 ·rw [Array.toList_map];exact yQ _ (fun z J=>M z (by rw [G];simp only [Op.operands,Array.mem_append];exact .inl (Array.mem_toList_iff.1 J)))
 ·rw [Array.toList_map];exact yQ _ (fun z J=>M z (by rw [G];simp only [Op.operands,Array.mem_append];exact .inr (Array.mem_toList_iff.1 J)))
theorem ace {x:Operand} {M:Nat} (G:o.op= .extract x M) (h:EL (aB T x) M H k=some r):ba P ro T o H (.some false []) lo k r:=by
 unfold EL at h
 split at h
 ·rename_i vs ab
  split at h
  ·rename_i v a1
   refine fg h (fun c h=>by rw [G] at h;cases h) (fun D α B a w U=> ?_)
   have I:=U x (by rw [G];simp [Op.operands])
   rw [ab] at I
   obtain ⟨a6,Z,aE⟩:=I
   obtain ⟨y,J,O⟩:=aj.get aE a1
   rw [Array.getElem?_toList] at J
   refine ⟨y, ?_,O⟩
   unfold execOp
   rw [G]
   simp only [Z,Instr.extract,J,Sem.run_bind,Sem.run_pure,Result.andThen]
  ·cases h
 ·cases h
theorem Z4 {v:AV} (h:Dh P T o=some v):∀ {D:Nat→Prop} {α:Nat→Nat×Nat} {B:Nat→Prop} {a:Act} {w:World},(∀ x ∈ o.op.operands,(aB T x).Rel P α B w D (a.eval x))→∃ x,(execOp a.eval o).run P w= .ok (.value x) w∧v.Rel P α B w D x:=by
 unfold Dh at h
 cases G:o.op.operands.toList.all (fun x=>(toVal (aB T x)).isSome) with
 | false=>rw [G] at h;cases h
 | true=>
  rw [G] at h
  simp only [cond] at h
  rw [List.all_eq_true] at G
  split at h
  ·cases h
  ·rename_i Z
   split at h
   ·rename_i u ab
    cases h
    intro D α B a w U
    refine ⟨u, ?_,toAV_rel u⟩
    rw [execOp_congr (ρ:=a.eval) (ρ':=fun x=>(toVal (aB T x)).getD undef) o (fun cs b=>Z cs b) (fun x I=> ?_)]
    ·exact Z8 P _ ab w
    ·have M:=U x I
     have O:=G x (Array.mem_toList_iff.2 I)
     obtain ⟨z,J⟩:=Option.isSome_iff_exists.1 O
     rw [J]
     exact toVal_rel J M
   ·cases h
theorem pR (J:∀ c,o.op≠ .defer c) (h:nc P T o H k=some r):ba P ro T o H (.some false []) lo k r:=by
 unfold nc at h
 split at h
 ·rename_i v I
  exact fg h J (fun D α B a w G=>Z4 I G)
 ·cases h
theorem ack {c:Call} (ab:o.op= .call c) (aE:c.callee= .builtin .len) (h:EN P T o c.args.toList c.argTypes.toList H k=some r):ba P ro T o H (.some false []) lo k r:=by
 have a7:∀ c,o.op≠ .defer c:=fun c h=>by rw [ab] at h;cases h
 unfold EN at h
 split at h
 ·rename_i x t U a1
  split at h
  ·rename_i v G
   refine fg h a7 (fun D α B a w b0=> ?_)
   have b2:x ∈ c.args:=Array.mem_toList_iff.1 (by rw [U];exact List.mem_cons_self)
   have M:=b0 x (by rw [ab];simp only [Op.operands,Call.operands,Array.mem_append];exact .inr b2)
   have a6:∀ (A:Option Addr) (n cap:Nat) (O:TypeId),ky P t=some O→a.eval x= .slice A n cap→(execOp a.eval o).run P w= .ok (.value (.int .i64 n)) w:=by
    intro A n cap O J I
    have b3:=vE J
    obtain ⟨b5,bD,bx⟩:=c
    simp only at aE U a1
    subst aE
    have b1:bD= #[x]:=Array.ext' U
    have b4:bx= #[t]:=Array.ext' a1
    subst b1 b4
    unfold execOp
    rw [ab]
    simp [resolve,invoke,builtin,Builtin.len_,I,run_underlying b3,Sem.run_bind,Result.andThen,goInt]
   unfold Lc at G
   simp only [Bool.cond_eq_ite] at G
   split at G
   ·rename_i fl O i off n Z
    split at G
    ·rename_i J
     cases G
     rw [Z] at M
     obtain ⟨_,cap,b6,I,_⟩:=M
     exact ⟨_,a6 _ _ _ _ (by simpa using J) I,rfl⟩
    ·cases G
   ·rename_i fl O n f Z
    split at G
    ·rename_i J
     cases G
     rw [Z] at M
     obtain ⟨A,cap,I,_⟩:=M
     exact ⟨_,a6 _ _ _ _ (by simpa using J) I,rfl⟩
    ·cases G
   ·cases G
  ·exact pR a7 h
 ·cases h
end
end Go.V
namespace Go.V
open Go Go.RowKit
section
variable {R : Type} {P : Program} {ro : Option Nat} {T : List AV} {o : Oper} {H : Hp} {lo : Nat} {k : Kn R} {r : R}
theorem mY {w:World} {G:IntKind} {z:Int} {y:Nat} {code:BoundsCode} (I:0≤z) (J:z≤y):(Instr.sliceBound (.int G z) y code).run P w= .ok z.toNat w:=by rw [run_sliceBound _ G z y code I J]
def Bd (x:Option AV) (d l:Nat):Prop:=(x=none∧l=d)∨∃ G z,x=some (.val (.int G z))∧0≤z∧l=z.toNat
theorem nw {x:Option AV} {q:Option Int} (h:wR x=some q):(x=none∧q=none)∨∃ G z,x=some (.val (.int G z))∧q=some z:=by
 unfold wR at h
 split at h
 ·cases h;exact .inl ⟨rfl,rfl⟩
 ·cases h;exact .inr ⟨_,_,rfl,rfl⟩
 ·cases h
theorem oF {M:Type} {n:Nat} {low hi:Option AV} {k:Nat→Nat→Option M} {r:M} (h:mc n low hi k=some r):∃ l h',k l h'=some r∧l≤h'∧h'≤n∧Bd low 0 l∧Bd hi n h':=by
 unfold mc at h
 simp only [Bool.cond_eq_ite] at h
 split at h
 ·rename_i J I
  rcases nw J with ⟨rfl,_⟩ | ⟨_,_,_,e⟩
  ·rcases nw I with ⟨rfl,_⟩ | ⟨_,_,_,e⟩
   ·exact ⟨0,n,h,Nat.zero_le _,Nat.le_refl _, .inl ⟨rfl,rfl⟩, .inl ⟨rfl,rfl⟩⟩
   ·cases e
  ·cases e
 ·rename_i zh J I
  split at h
  ·rename_i G
   rw [Bool.and_eq_true,decide_eq_true_eq,decide_eq_true_eq] at G
   rcases nw J with ⟨rfl,_⟩ | ⟨_,_,_,e⟩
   ·rcases nw I with ⟨_,e⟩ | ⟨O,z,rfl,e⟩
    ·cases e
    ·cases e;exact ⟨0,_,h,Nat.zero_le _,by omega, .inl ⟨rfl,rfl⟩, .inr ⟨_,_,rfl,G.1,rfl⟩⟩
   ·cases e
  ·cases h
 ·rename_i U J I
  split at h
  ·rename_i G
   rw [Bool.and_eq_true,decide_eq_true_eq,decide_eq_true_eq] at G
   rcases nw J with ⟨_,e⟩ | ⟨O,z,rfl,e⟩
   ·cases e
   ·cases e
    rcases nw I with ⟨rfl,_⟩ | ⟨_,_,_,e⟩
    ·exact ⟨_,n,h,by omega,Nat.le_refl _, .inr ⟨_,_,rfl,G.1,rfl⟩, .inl ⟨rfl,rfl⟩⟩
    ·cases e
  ·cases h
 ·rename_i U zh J I
  split at h
  ·rename_i G
   rw [Bool.and_eq_true,Bool.and_eq_true,decide_eq_true_eq,decide_eq_true_eq,decide_eq_true_eq] at G
   rcases nw J with ⟨_,e⟩ | ⟨O,z,rfl,e⟩
   ·cases e
   ·cases e
    rcases nw I with ⟨_,e⟩ | ⟨Z,ab,rfl,e⟩
    ·cases e
    ·cases e;exact ⟨_,_,h,by omega,by omega, .inr ⟨_,_,rfl,G.1.1,rfl⟩, .inr ⟨_,_,rfl,by omega,rfl⟩⟩
  ·cases h
 ·cases h
def wa (x:Option Value) (d l:Nat):Prop:=(x=none∧l=d)∨∃ G z,x=some (.int G z)∧0≤z∧l=z.toNat
theorem Bd.val {D : Nat → Prop} {α : Nat → Nat × Nat} {B : Nat → Prop} {w : World} {a : Act} {x : Option Operand} {d l : Nat} (h : Bd (x.map (aB T)) d l) (M : ∀ y, x = some y → (aB T y).Rel P α B w D (a.eval y)) : wa (x.map a.eval) d l := by
  cases x with
  | none => rcases h with ⟨_, h⟩ | ⟨G, z, e, _⟩
            · exact .inl ⟨rfl, h⟩
            · cases e
  | some y =>
    rcases h with ⟨e, _⟩ | ⟨G, z, e, I, J⟩
    · cases e
    · simp only [Option.map_some, Option.some.injEq] at e
      have := M y rfl
      rw [e] at this
      exact .inr ⟨G, z, by simp only [Option.map_some]; rw [show a.eval y = .int G z from this], I, J⟩
theorem vy {w:World} {b:Bool} {len cap l h:Nat} {low hi:Option Value} (O:wa low 0 l) (M:wa hi len h) (U:l≤h) (Z:h≤cap):(Instr.sliceBounds b len cap low hi none).run P w= .ok (l,h,cap) w:=by
 unfold Instr.sliceBounds
 rcases M with ⟨rfl,rfl⟩ | ⟨kh,zh,rfl,G,rfl⟩ <;> rcases O with ⟨rfl,rfl⟩ | ⟨ab,J,rfl,I,rfl⟩
 ·simp [Sem.run_pure]
 ·simp only [Sem.run_bind,Sem.run_pure,Result.andThen,Option.isSome_none,Bool.false_eq_true,if_false,mY I (show J≤(h:Int) by omega)]
 ·simp only [Sem.run_bind,Sem.run_pure,Result.andThen,mY G (show zh≤(cap:Int) by omega)]
 ·simp only [Sem.run_bind,Sem.run_pure,Result.andThen,Option.isSome_none,Bool.false_eq_true,if_false,mY G (show zh≤(cap:Int) by omega),mY I (show J≤((zh.toNat:Nat):Int) by omega)]
theorem NS {w:World} {b:Bool} {len cap l h m:Nat} {low hi J:Option Value} (Z:wa low 0 l) {kh:IntKind} {zh:Int} (O:hi=some (.int kh zh)) (G:0≤zh) (U:h=zh.toNat) {km:IntKind} {zm:Int} (ab:J=some (.int km zm)) (I:0≤zm) (aE:m=zm.toNat) (a6:l≤h) (a7:h≤m) (bx:m≤cap):
  (Instr.sliceBounds b len cap low hi J).run P w= .ok (l,h,m) w:=by
 subst O ab U aE
 unfold Instr.sliceBounds
 rcases Z with ⟨rfl,rfl⟩ | ⟨bD,a1,rfl,M,rfl⟩
 ·simp only [Sem.run_bind,Sem.run_pure,Result.andThen,mY I (show zm≤(cap:Int) by omega),mY G (show zh≤((zm.toNat:Nat):Int) by omega)]
 ·simp only [Sem.run_bind,Sem.run_pure,Result.andThen,mY I (show zm≤(cap:Int) by omega),mY G (show zh≤((zm.toNat:Nat):Int) by omega),mY M (show a1≤((zh.toNat:Nat):Int) by omega)]
theorem OT (s:ByteArray) (l h:Nat):s.extract l h=dP s l h:=by
 obtain ⟨⟨x⟩⟩:=s
 rw [Go.ByteArray.extract_mk];rfl
theorem Ev {D:Nat→Prop} {α:Nat→Nat×Nat} {B:Nat→Prop} {w:World} {fl J:Bool} {t:TypeId} {i off len:Nat} {x:Value} {A:Option Addr} {cap:Nat} (ab:(AV.sl fl t i off len).Rel P α B w D x) (U:x= .slice A len cap) {l h m:Nat} (a1:l≤h) (a6:h≤m) (O:m≤cap) (Z:J=true→m=h):
  (AV.sl J t i (off+l*P.cellsOf t) (h - l)).Rel P α B w D (.slice (if m=l then A else A.map (·.add (l*P.cellsOf t))) (h - l) (m - l)):=by
 obtain ⟨hi,aE,M,e,a7,bx,I⟩:=ab
 rw [U] at e
 cases e
 refine ⟨hi,m - l,if m=l then M else M+l*P.cellsOf t, ?_,by omega,fun e=>by have:=Z e;omega, ?_⟩
 ·by_cases G:m=l
  ·rw [if_pos G,if_pos G]
  ·rw [if_neg G,if_neg G,Option.map_some,fH]
 ·by_cases G:m=l
  ·left;omega
  ·right
   rw [if_neg G]
   rcases I with I | ⟨rfl,I⟩
   ·omega
   ·refine ⟨rfl, ?_⟩
    have:l*P.cellsOf t+(m - l)*P.cellsOf t=m*P.cellsOf t:=by rw [← Nat.add_mul];congr 1;omega
    have:m*P.cellsOf t≤cap*P.cellsOf t:=Nat.mul_le_mul_right _ O
    omega
theorem Ly {D:Nat→Prop} {α:Nat→Nat×Nat} {B:Nat→Prop} {w:World} {fl G:Bool} {t:TypeId} {n:Nat} {f:Nat→Nat→AV} {x:Value} {A:Option Addr} {cap:Nat} (a6:(AV.lst fl t n f).Rel P α B w D x) (ab:x= .slice A n cap) {l h m:Nat} (b0:h≤n) (b1:l≤h) (b2:h≤m) (b3:m≤cap) (aE:G=true→m=h):
  (AV.lst G t (h - l) (fun j q=>f (j+l) q)).Rel P α B w D (.slice (if m=l then A else A.map (·.add (l*P.cellsOf t))) (h - l) (m - l)):=by
 obtain ⟨bx,bD,e,b4,b5,I⟩:=a6
 rw [ab] at e
 cases e
 refine ⟨_,_,rfl,by omega,fun e=>by have:=aE e;omega, ?_⟩
 by_cases b7:h=l
 ·left;omega
 ·right
  rw [if_neg (show ¬ m=l by omega)]
  rcases I with I | ⟨b,a7,cs,ty,fr,rfl,J,M,O⟩
  ·omega
  ·refine ⟨b,a7+l*P.cellsOf t,cs,ty,fr,by rw [Option.map_some,fH],J,M,fun j q b6 a1=> ?_⟩
   obtain ⟨y,U,Z⟩:=O (j+l) q (by omega) a1
   refine ⟨y, ?_,Z⟩
   rw [← U]
   congr 1
   rw [Nat.add_mul]
   omega
theorem vz {w:World} {t e:TypeId} (J:P.underlying t=some (.slice e)) {i:TypeInfo} (hi:P.info? e=some i) {A:Option Addr} {len cap l h m:Nat} {low G I:Option Value} (hb:(Instr.sliceBounds true len cap low G I).run P w= .ok (l,h,m) w):
  (Instr.sliceAt t (.slice A len cap) low G I).run P w= .ok (.slice (if m=l then A else A.map (·.add (l*P.cellsOf e))) (h - l) (m - l)) w:=by
 unfold Instr.sliceAt
 simp only [Sem.run_bind,run_underlying J,Result.andThen,Instr.slice,hb,run_sizeOf w hi,Sem.run_pure]
theorem acu {t:TypeId} {x:Operand} {low hi aE:Option Operand} (c3:o.op= .slice t x low hi aE) (h:Ew P H t (aB T x) (low.map (aB T)) (hi.map (aB T)) (aE.map (aB T)) (fun v=>k v H)=some r):ba P ro T o H (.some false (tid false (aB T x))) lo k r:=by
 have b6:∀ c,o.op≠ .defer c:=fun c h=>by rw [c3] at h;cases h
 have c0:∀ {a:Act} {w:World} {y:Value},(Instr.sliceAt t (a.eval x) (low.map a.eval) (hi.map a.eval) (aE.map a.eval)).run P w= .ok y w→(execOp a.eval o).run P w= .ok (.value y) w:=by
  intro a w y J
  unfold execOp
  rw [c3]
  simp only [Sem.run_bind,J,Result.andThen,Sem.run_pure]
 have ct:x ∈ o.op.operands:=by rw [c3];simp [Op.operands]
 have ch:∀ y,low=some y→y ∈ o.op.operands:=by rintro y rfl;rw [c3];simp [Op.operands]
 have b7:∀ y,hi=some y→y ∈ o.op.operands:=by rintro y rfl;rw [c3];simp [Op.operands]
 have ek:∀ y,aE=some y→y ∈ o.op.operands:=by rintro y rfl;rw [c3];simp [Op.operands]
 unfold Ew at h
 simp only [Bool.cond_eq_ite] at h
 split at h
 ·rename_i s b0 bx
  split at h
  ·rename_i M
   have M:aE=none:=by cases aE with | none=>rfl | some _=>cases M
   obtain ⟨l,h',U,O,ab,a1,G⟩:=oF h
   refine dO U (fF _) b6 (fun B0 w0 b3 D α a w b4 b2 I=> ?_)
   have e1:=I x ct
   rw [bx] at e1
   have eb:a.eval x= .string s:=e1
   refine ⟨_,c0 ?_,rfl⟩
   rw [M,eb]
   unfold Instr.sliceAt
   simp only [Sem.run_bind,run_underlying b0,Result.andThen,Instr.slice,Option.map_none,Option.isSome_none,Bool.false_eq_true,if_false,vy (P:=P) (w:=w) (b:=false) (a1.val (fun y J=>I y (ch y J))) (G.val (fun y J=>I y (b7 y J))) O ab,Sem.run_pure,OT]
  ·cases h
 ·rename_i e fl e2 i off len b0 bx
  split at h
  ·rename_i c6
   rw [Bool.and_eq_true,beq_iff_eq] at c6
   obtain ⟨rfl,Z⟩:=c6
   obtain ⟨ti,Z⟩:=Option.isSome_iff_exists.1 Z
   split at h
   ·rename_i M
    have M:aE=none:=by cases aE with | none=>rfl | some _=>cases M
    obtain ⟨l,h',U,O,ab,a1,G⟩:=oF h
    refine dO U (fF _) b6 (fun B0 w0 b3 D α a w b4 b2 I=> ?_)
    have e1:=I x ct
    rw [bx] at e1
    obtain ⟨_,cap,eN,a6,a7,c7,_⟩:=id e1
    refine ⟨_,c0 ?_,Ev e1 a6 O (Nat.le_trans ab a7) (Nat.le_refl cap) ?_⟩
    ·rw [M,a6]
     exact vz b0 Z (vy (a1.val (fun y J=>I y (ch y J))) (G.val (fun y J=>I y (b7 y J))) O (Nat.le_trans ab a7))
    ·intro bD
     cases hi with
     | some b1=>cases bD
     | none=>
      rcases G with ⟨_,G⟩ | ⟨_,_,G,_⟩
      ·rw [c7 bD,G]
      ·cases G
   ·rename_i km m M
    split at h
    ·rename_i ea z eg
     obtain ⟨l,h',U,O,ab,a1,G⟩:=oF h
     split at U
     ·rename_i a7
      rw [Bool.and_eq_true,decide_eq_true_eq,decide_eq_true_eq] at a7
      refine dO U (fF _) b6 (fun B0 w0 b3 D α a w b4 b2 I=> ?_)
      have e1:=I x ct
      rw [bx] at e1
      obtain ⟨_,cap,eN,a6,ep,c7,_⟩:=id e1
      obtain ⟨b1,rfl,dx⟩:=Option.map_eq_some_iff.1 eg
      obtain ⟨b5,rfl,ed⟩:=Option.map_eq_some_iff.1 M
      have c4:=I b1 (b7 b1 rfl)
      have em:=I b5 (ek b5 rfl)
      rw [dx] at c4
      rw [ed] at em
      have dy:0≤z∧h'=z.toNat:=by
       rcases G with ⟨G,_⟩ | ⟨_,_,G,c5,ec⟩
       ·cases G
       ·simp only [Option.map_some,Option.some.injEq] at G
        rw [dx] at G
        cases G
        exact ⟨c5,ec⟩
      refine ⟨_,c0 ?_,Ev (m:=m.toNat) e1 a6 O (by omega) (by omega) ?_⟩
      ·rw [a6]
       exact vz b0 Z (NS (a1.val (fun y J=>I y (ch y J))) (kh:=ea) (zh:=z) (by rw [Option.map_some];rw [show a.eval b1= .int ea z from c4]) dy.1 dy.2 (km:=km) (zm:=m) (by rw [Option.map_some];rw [show a.eval b5= .int km m from em]) (by omega) rfl O (by omega) (by omega))
      ·intro bD
       have:=of_decide_eq_true bD
       omega
     ·cases U
    ·cases h
   ·cases h
  ·cases h
 ·rename_i e fl e2 n f b0 bx
  split at h
  ·rename_i c6
   rw [Bool.and_eq_true,beq_iff_eq] at c6
   obtain ⟨rfl,Z⟩:=c6
   obtain ⟨ti,Z⟩:=Option.isSome_iff_exists.1 Z
   split at h
   ·rename_i M
    have M:aE=none:=by cases aE with | none=>rfl | some _=>cases M
    obtain ⟨l,h',U,O,ab,a1,G⟩:=oF h
    refine dO U (fF _) b6 (fun B0 w0 b3 D α a w b4 b2 I=> ?_)
    have e1:=I x ct
    rw [bx] at e1
    obtain ⟨A,cap,a6,a7,c7,_⟩:=id e1
    refine ⟨_,c0 ?_,Ly e1 a6 ab O (Nat.le_trans ab a7) (Nat.le_refl cap) ?_⟩
    ·rw [M,a6]
     exact vz b0 Z (vy (a1.val (fun y J=>I y (ch y J))) (G.val (fun y J=>I y (b7 y J))) O (Nat.le_trans ab a7))
    ·intro bD
     cases hi with
     | some b1=>cases bD
     | none=>
      rcases G with ⟨_,G⟩ | ⟨_,_,G,_⟩
      ·rw [c7 bD,G]
      ·cases G
   ·rename_i km m M
    split at h
    ·rename_i ea z eg
     obtain ⟨l,h',U,O,ab,a1,G⟩:=oF h
     split at U
     ·rename_i a7
      rw [Bool.and_eq_true,decide_eq_true_eq,decide_eq_true_eq] at a7
      refine dO U (fF _) b6 (fun B0 w0 b3 D α a w b4 b2 I=> ?_)
      have e1:=I x ct
      rw [bx] at e1
      obtain ⟨A,cap,a6,ep,c7,_⟩:=id e1
      obtain ⟨b1,rfl,dx⟩:=Option.map_eq_some_iff.1 eg
      obtain ⟨b5,rfl,ed⟩:=Option.map_eq_some_iff.1 M
      have c4:=I b1 (b7 b1 rfl)
      have em:=I b5 (ek b5 rfl)
      rw [dx] at c4
      rw [ed] at em
      have dy:0≤z∧h'=z.toNat:=by
       rcases G with ⟨G,_⟩ | ⟨_,_,G,c5,ec⟩
       ·cases G
       ·simp only [Option.map_some,Option.some.injEq] at G
        rw [dx] at G
        cases G
        exact ⟨c5,ec⟩
      refine ⟨_,c0 ?_,Ly (m:=m.toNat) e1 a6 ab O (by omega) (by omega) ?_⟩
      ·rw [a6]
       exact vz b0 Z (NS (a1.val (fun y J=>I y (ch y J))) (kh:=ea) (zh:=z) (by rw [Option.map_some];rw [show a.eval b1= .int ea z from c4]) dy.1 dy.2 (km:=km) (zm:=m) (by rw [Option.map_some];rw [show a.eval b5= .int km m from em]) (by omega) rfl O (by omega) (by omega))
      ·intro bD
       have:=of_decide_eq_true bD
       omega
     ·cases U
    ·cases h
   ·cases h
  ·cases h
 ·rename_i e b0 bx
  split at h
  ·rename_i M
   have M:aE=none:=by cases aE with | none=>rfl | some _=>cases M
   split at h
   ·rename_i Z
    obtain ⟨ti,Z⟩:=Option.isSome_iff_exists.1 Z
    obtain ⟨l,h',U,O,ab,a1,G⟩:=oF h
    refine dO U (fF _) b6 (fun B0 w0 b3 D α a w b4 b2 I=> ?_)
    have e1:=I x ct
    have en:=e1
    rw [bx] at e1
    have eb:a.eval x= .slice none 0 0:=e1
    refine ⟨_,c0 ?_,en⟩
    have eu:l=0:=by omega
    have et:h'=0:=by omega
    rw [M,eb]
    have:=vz (P:=P) (w:=w) b0 Z (A:=none) (vy (len:=0) (cap:=0) (b:=true) (a1.val (fun y J=>I y (ch y J))) (G.val (fun y J=>I y (b7 y J))) O ab)
    rw [Option.map_none] at*
    rw [this,eu,et]
    rfl
   ·cases h
  ·cases h
 ·rename_i n e i off b0 bx
  split at h
  ·rename_i c ty st M eh
   have M:aE=none:=by cases aE with | none=>rfl | some _=>cases M
   split at h
   ·rename_i a7
    rw [Bool.and_eq_true,Bool.and_eq_true,decide_eq_true_eq] at a7
    obtain ⟨⟨ez,Z⟩,fa⟩:=a7
    obtain ⟨ti,Z⟩:=Option.isSome_iff_exists.1 Z
    obtain ⟨l,h',U,O,ab,a1,G⟩:=oF h
    refine dO U (fF _) b6 (fun B0 w0 b3 D α a w b4 b2 I=> ?_)
    have e1:=I x ct
    rw [bx] at e1
    obtain ⟨hi,a6⟩:=e1
    have ev:=(List.getElem?_eq_some_iff.1 eh).1
    have eo:b3 i=some (.row c ty st):=(b4 i false (by rw [bx];simp [tid]) ev).trans eh
    obtain ⟨cs,fr,e3,e4,e5,e6,e7⟩:=ig b2 hi eo (by simpa using ez)
    refine ⟨_,c0 ?_,Ev (fl:=true) (t:=e) (i:=i) (off:=off) (len:=n) (A:=some ⟨(α i).1,off,none⟩) (cap:=n) (x:= .slice (some ⟨(α i).1,off,none⟩) n n) ⟨hi,n,off,rfl,Nat.le_refl _,fun _=>rfl, .inr ⟨rfl,by omega⟩⟩ rfl O ab (Nat.le_refl _) ?_⟩
    ·rw [M,a6]
     unfold Instr.sliceAt
     simp only [Sem.run_bind,run_underlying b0,Result.andThen,Instr.sureAddr,Option.map_none,vy (P:=P) (w:=w) (b:=false) (a1.val (fun y J=>I y (ch y J))) (G.val (fun y J=>I y (b7 y J))) O ab,run_sizeOf w Z,Sem.run_pure,Option.map_some]
     split <;> rfl
    ·intro bD
     rcases G with ⟨G,c5⟩ | ⟨_,_,G,_⟩
     ·exact c5.symm
     ·rw [G] at bD;cases bD
   ·cases h
  ·cases h
 ·cases h
end
end Go.V
namespace Go.V
open Go Go.RowKit
section
variable {R : Type} {P : Program} {ro : Option Nat} {T : List AV} {o : Oper} {H : Hp} {lo : Nat} {k : Kn R} {r : R}
theorem Px {G:IntKind} {z:Int} (h:ah G z=true):G.wrap z=z:=by
 unfold ah at h
 rw [Bool.and_eq_true,decide_eq_true_eq,decide_eq_true_eq] at h
 obtain ⟨I,J⟩:=h
 cases G <;> simp [IntKind.min,IntKind.max,IntKind.wrap,IntKind.signed,IntKind.bits] at I J ⊢ <;> omega
theorem sG {G:IntKind} {z:Int} {K:AV→Option R} (h:oC G z K=some r):K (.val (.int G (G.wrap z)))=some r:=by
 unfold oC at h
 simp only [Bool.cond_eq_ite] at h
 split at h
 ·split at h
  ·rename_i I;rw [Px I];exact h
  ·cases h
 ·exact h
theorem sH (x y:Int):(x==y)=decide (x=y):=rfl
theorem W2 {G:BinOp} {J:IntKind} {x y:Int} {K:AV→Option R} (M:G≠ .shl∧G≠ .shr) (h:CL G J x y K=some r) (t:TypeId):∃ v,K (.val v)=some r∧∀ w,(binOp G t (.int J x) (.int J y)).run P w= .ok v w:=by
 cases G <;> simp only [CL] at h <;> (try (cases h;done))
 case add=>exact ⟨_,sG h,fun w=>by simp [binOp,Op.intArith,Sem.run_pure]⟩
 case sub=>exact ⟨_,sG h,fun w=>by simp [binOp,Op.intArith,Sem.run_pure]⟩
 case mul=>exact ⟨_,sG h,fun w=>by simp [binOp,Op.intArith,Sem.run_pure]⟩
 case quo=>
  simp only [Bool.cond_eq_ite,decide_eq_true_eq] at h
  split at h
  ·cases h
  ·rename_i I;exact ⟨_,sG h,fun w=>by simp [binOp,Op.intDiv,I,Sem.run_pure]⟩
 case rem=>
  simp only [Bool.cond_eq_ite,decide_eq_true_eq] at h
  split at h
  ·cases h
  ·rename_i I;exact ⟨_,h,fun w=>by simp [binOp,Op.intDiv,I,Sem.run_pure]⟩
 case and=>exact ⟨_,h,fun w=>by simp [binOp,Op.intBits,b9,Sem.run_pure]⟩
 case or=>exact ⟨_,h,fun w=>by simp [binOp,Op.intBits,b9,Sem.run_pure]⟩
 case xor=>exact ⟨_,h,fun w=>by simp [binOp,Op.intBits,b9,Sem.run_pure]⟩
 case andNot=>exact ⟨_,h,fun w=>by simp [binOp,Op.intBits,b9,Sem.run_pure]⟩
 case eql=>exact ⟨_,h,fun w=>by simp [binOp,Op.intCmp,Sem.run_pure];exact sH x y⟩
 case neq=>exact ⟨_,h,fun w=>by simp [binOp,Op.intCmp,Sem.run_pure,bne];exact sH x y⟩
 case lss=>exact ⟨_,h,fun w=>by simp [binOp,Op.intCmp,Sem.run_pure]⟩
 case leq=>exact ⟨_,h,fun w=>by simp [binOp,Op.intCmp,Sem.run_pure]⟩
 case gtr=>exact ⟨_,h,fun w=>by simp [binOp,Op.intCmp,Sem.run_pure]⟩
 case geq=>exact ⟨_,h,fun w=>by simp [binOp,Op.intCmp,Sem.run_pure]⟩
theorem N1 {G:BinOp} {J O:IntKind} {x y:Int} {K:AV→Option R} (h:yZ G J x y K=some r) (M:G= .shl∨G= .shr) (t:TypeId):∃ v,K (.val v)=some r∧∀ w,(binOp G t (.int J x) (.int O y)).run P w= .ok v w:=by
 unfold yZ at h
 simp only [Bool.cond_eq_ite,decide_eq_true_eq] at h
 split at h
 ·cases h
 ·rename_i I
  rcases M with rfl | rfl
  ·exact ⟨_,sG h,fun w=>by simp [binOp,Op.shift,I,Sem.run_pure]⟩
  ·exact ⟨_,h,fun w=>by simp [binOp,Op.shift,I,Sem.run_pure]⟩
theorem Fb (s:ByteArray):s.toList=s.data.toList:=Go.ByteArray.toList_eq s
theorem acE (a b:ByteArray):a ++ b=rZ a b:=by
 obtain ⟨⟨x⟩⟩:=a
 obtain ⟨⟨y⟩⟩:=b
 rw [Go.ByteArray.mk_append_mk];rfl
theorem acH {G:BinOp} {x y:ByteArray} {K:AV→Option R} (h:Fa G x y K=some r) (t:TypeId):∃ v,K (.val v)=some r∧∀ w,(binOp G t (.string x) (.string y)).run P w= .ok v w:=by
 cases G <;> simp only [Fa] at h <;> (try (cases h;done))
 case add=>
  simp only [Bool.cond_eq_ite,decide_eq_true_eq] at h
  split at h
  ·rename_i I
   refine ⟨_,h,fun w=> ?_⟩
   have:(binOp .add t (.string x) (.string y))=Op.stringOp .add x y:=by simp [binOp]
   rw [this,run_string_add_sum w x y I,acE]
  ·cases h
 all_goals exact ⟨_,h,fun w=>by simp [binOp,Op.stringOp,aF,strLt,Fb,Sem.run_pure]⟩
theorem Ml {t:TypeId} {J:Array Value} {off:Nat} {v:Value} (h:rA P t J.toList off=some v) (w:World):(part t J off).run P w= .ok v w:=by
 unfold rA at h
 simp only [Bool.cond_eq_ite] at h
 split at h
 ·rename_i ha
  cases h
  have I:∃ d,P.underlying t=some d:=by
   unfold dU at ha
   cases G:P.underlying t with
   | none=>rw [G] at ha;cases ha
   | some d=>exact ⟨d,rfl⟩
  obtain ⟨d,G⟩:=I
  obtain ⟨i,hi⟩:=qT G
  unfold part
  simp only [Sem.run_bind,pH G,ha,Result.andThen,if_true,run_sizeOf w hi,Sem.run_pure]
  congr 2
  apply Array.ext'
  rw [Array.toList_extract,List.extract_eq_take_drop,Nat.add_sub_cancel_left]
 ·rename_i ha
  split at h
  ·rename_i I
   obtain ⟨d,G⟩:=Option.isSome_iff_exists.1 I
   rw [Array.getElem?_toList] at h
   unfold part
   simp only [Sem.run_bind,pH G,ha,Result.andThen,Bool.false_eq_true,if_false,h,Sem.run_pure]
  ·cases h
theorem Ck {E:TypeId→Value→Value→Option Bool} {d:Nat} (I:∀ t x y q,E t x y=some q→∀ w,(Op.equalIn d t x y).run P w= .ok q w) {O U:Array Value} :∀ (G:List Field) {q:Bool},oN P E O.toList U.toList G=some q→∀ w,(Op.eqFields d O U G).run P w= .ok q w
 | [],q,h,w=>by cases h;simp [Op.eqFields,Sem.run_pure]
 | f :: G,q,h,w=>by
  rw [oN] at h
  simp only [Bool.cond_eq_ite] at h
  rw [Op.eqFields]
  split at h
  ·rename_i J
   have M : ¬ f.name ≠ "_" := by simpa using J
   rw [if_neg M]
   exact Ck I G h w
  ·rename_i J
   have M : f.name ≠ "_" := by simpa using J
   rw [if_pos M]
   split at h
   ·rename_i a b ha hb
    split at h
    ·rename_i q1 Z
     split at h
     ·rename_i q2 ab
      cases h
      simp only [Sem.run_bind,Ml ha w,Ml hb w,I _ _ _ _ Z w,Result.andThen]
      cases q1
      ·simp [Sem.run_pure]
      ·simp only [Bool.not_true,Bool.false_eq_true,if_false,Bool.true_and]
       exact Ck I G ab w
     ·cases h
    ·cases h
   ·cases h
theorem Kh:∀ (d:Nat) {t:TypeId} {x y:Value} {q:Bool},jm P d t x y=some q→∀ (n:Nat) (w:World),d≤n→(Op.equalIn n t x y).run P w= .ok q w
 | 0,t,x,y,q,h,n,w,O=>by cases h
 | d+1,t,x,y,q,h,n,w,O=>by
  obtain ⟨n,rfl⟩:∃ m,n=m+1:= ⟨n - 1,by omega⟩
  unfold jm at h
  split at h
  ·rename_i G;cases h;rw [run_equalIn_bool' w n t _ _ G]
  ·rename_i G
   simp only [Bool.cond_eq_ite] at h
   split at h
   ·rename_i I
    have I:=of_decide_eq_true I
    subst I
    cases h
    rw [run_equalIn_int w n t _ _ _ _ G]
    rfl
   ·cases h
  ·rename_i G;cases h;rw [run_equalIn_string w n t _ _ G,Fb,Fb];rfl
  ·rename_i M ab aE G
   simp only [Bool.cond_eq_ite] at h
   split at h
   ·cases h
   ·rename_i U
    have J:P.fieldsOf t=M:=by simp [Program.fieldsOf,G]
    rw [run_equalIn_struct w n t ab aE (by rw [J];exact G) (by simpa using U),J]
    exact Ck (fun t x y q Z w=>Kh d Z n w (by omega)) _ h w
  ·rename_i G;cases h;simp [Op.equalIn,run_underlying G,Sem.run_pure]
  ·rename_i G;cases h;simp [Op.equalIn,run_underlying G,Sem.run_pure]
  ·rename_i G;cases h;simp [Op.equalIn,run_underlying G,Sem.run_pure]
  ·rename_i G;cases h;simp [Op.equalIn,run_underlying G,Sem.run_pure]
  ·rename_i G;cases h;simp [Op.equalIn,run_underlying G,Sem.run_pure]
  ·cases h
end
end Go.V
namespace Go.V
open Go Go.RowKit
section
variable {R : Type} {P : Program} {ro : Option Nat} {T : List AV} {o : Oper} {H : Hp} {lo : Nat} {k : Kn R} {r : R}
theorem yV {G:BinOp} {t ty:TypeId} {x y:Operand} {a:Act} {w:World} {u v z:Value} (J:o.op= .binOp G t x y ty) (M:a.eval x=u) (O:a.eval y=v) (I:(eqGuard G t x y u v).run P w= .ok () w) (hb:(binOp G t u v).run P w= .ok z w):(execOp a.eval o).run P w= .ok (.value z) w:=by
 unfold execOp
 rw [J]
 simp only [M,O,Sem.run_bind,I,Result.andThen,hb,Sem.run_pure]
theorem WS {G:BinOp} {t:TypeId} {x y:Operand} {w:World} {J I:IntKind} {a b:Int} :(eqGuard G t x y (.int J a) (.int I b)).run P w= .ok () w:=by cases G <;> simp [eqGuard,Sem.run_pure]
theorem WU {G:BinOp} {t:TypeId} {x y:Operand} {w:World} {a b:ByteArray} :(eqGuard G t x y (.string a) (.string b)).run P w= .ok () w:=by cases G <;> simp [eqGuard,Sem.run_pure]
theorem WT {G:BinOp} {t:TypeId} {x y:Operand} {w:World} {a b:Value} (ha:nL a=true) (hb:nL b=true) (I:P.eqGuardType P.depth t=false):(eqGuard G t x y a b).run P w= .ok () w:=by
 cases a <;> simp only [nL,Bool.false_eq_true] at ha <;> cases b <;> simp only [nL,Bool.false_eq_true] at hb <;> first
  | exact run_eqGuard_agg w G t x y _ _ I
  | (cases G <;> simp [eqGuard,Sem.run_pure])
def qL (G:BinOp) (q:Bool):Bool:=match G with | .eql=>q | _=> !q
theorem I4 {G:BinOp} {t:TypeId} {a b:Value} {w:World} {q:Bool} (I:G= .eql∨G= .neq) (O:∀ s u,¬ (a= .string s∧b= .string u)) (hi:∀ k x U y,¬ (a= .int k x∧b= .int U y)) (M:∀ k x,a≠ .float k x) (J:∀ k x y,a≠ .complex k x y) (h:(Op.equal t a b).run P w= .ok q w):(binOp G t a b).run P w= .ok (.bool (qL G q)) w:=by
 have Z:∀ G,G=BinOp.eql∨G= .neq→binOp G t a b=(if G= .eql then (do pure (.bool (← Op.equal t a b))) else (do pure (.bool (!(← Op.equal t a b))))):=by
  intro G I
  rcases I with rfl | rfl <;> (cases a <;> cases b <;> first
   | rfl
   | exact absurd ⟨rfl,rfl⟩ (O _ _)
   | exact absurd ⟨rfl,rfl⟩ (hi _ _ _ _)
   | exact absurd rfl (M _ _)
   | exact absurd rfl (J _ _ _)
   | simp [binOp])
 rw [Z G I]
 rcases I with rfl | rfl
 ·simp only [if_true,Sem.run_bind,h,Result.andThen,Sem.run_pure,qL]
 ·simp only [reduceCtorEq,if_false,Sem.run_bind,h,Result.andThen,Sem.run_pure,qL]
theorem Wc {d : Nat} {t : TypeId} {a b : Value} {q : Bool} (h : jm P d t a b = some q) : (∀ k x, a ≠ .float k x) ∧ (∀ k x y, a ≠ .complex k x y) := by
  constructor
  · rintro k x rfl
    cases d with
    | zero => cases h
    | succ d => unfold jm at h; split at h <;> first | (rename_i e; cases e; done) | cases h | skip
                all_goals (first | (rename_i e _; cases e) | (rename_i e _ _; cases e) | skip)
                all_goals simp_all
  · rintro k x y rfl
    cases d with
    | zero => cases h
    | succ d => unfold jm at h; split at h <;> first | (rename_i e; cases e; done) | cases h | skip
                all_goals (first | (rename_i e _; cases e) | (rename_i e _ _; cases e) | skip)
                all_goals simp_all
theorem KM {G:BinOp} {t:TypeId} {x y:Operand} {w:World} {a b:Value} (h:∀ J,a≠ .agg J) (I:a≠ .nilIface):(eqGuard G t x y a b).run P w= .ok () w:=by
 cases a <;> first
  | exact absurd rfl (h _)
  | exact absurd rfl I
  | (cases G <;> simp [eqGuard,Sem.run_pure])
theorem Ki {t e:TypeId} {w:World} {A:Addr} {n c m d:Nat} (G:P.underlying t=some (.slice e)):(Op.equal t (.slice (some A) n c) (.slice none m d)).run P w= .ok false w:=by
 show (Op.equalIn (9999+1) t _ _).run P w=_
 unfold Op.equalIn
 simp only [Sem.run_bind,run_underlying G,Result.andThen,Sem.run_pure]
theorem Wi {t e:TypeId} {w:World} {A:Addr} {n c m d:Nat} (G:P.underlying t=some (.slice e)):(Op.equal t (.slice none m d) (.slice (some A) n c)).run P w= .ok false w:=by
 show (Op.equalIn (9999+1) t _ _).run P w=_
 unfold Op.equalIn
 simp only [Sem.run_bind,run_underlying G,Result.andThen,Sem.run_pure,Option.isNone_some]
theorem We {t:TypeId} {ps J:Array TypeId} {M:Bool} {w:World} {G:Fn} {O U:Array Value} (I:P.underlying t=some (.func ps J M)):(Op.equal t (.func G O U) .nilFunc).run P w= .ok false w:=by
 show (Op.equalIn (9999+1) t _ _).run P w=_
 unfold Op.equalIn
 simp only [Sem.run_bind,run_underlying I,Result.andThen,Sem.run_pure]
theorem Wf {t:TypeId} {ps J:Array TypeId} {M:Bool} {w:World} {G:Fn} {O U:Array Value} (I:P.underlying t=some (.func ps J M)):(Op.equal t .nilFunc (.func G O U)).run P w= .ok false w:=by
 show (Op.equalIn (9999+1) t _ _).run P w=_
 unfold Op.equalIn
 simp only [Sem.run_bind,run_underlying I,Result.andThen,Sem.run_pure]
theorem Wg {t e:TypeId} {w:World} {A:Addr} (G:P.underlying t=some (.pointer e)):(Op.equal t (.pointer (some A)) (.pointer none)).run P w= .ok false w:=by
 show (Op.equalIn (9999+1) t _ _).run P w=_
 unfold Op.equalIn
 simp only [Sem.run_bind,run_underlying G,Result.andThen,Sem.run_pure]
theorem Wh {t e:TypeId} {w:World} {A:Addr} (G:P.underlying t=some (.pointer e)):(Op.equal t (.pointer none) (.pointer (some A))).run P w= .ok false w:=by
 show (Op.equalIn (9999+1) t _ _).run P w=_
 unfold Op.equalIn
 simp only [Sem.run_bind,run_underlying G,Result.andThen,Sem.run_pure,Option.isNone_some]
theorem Wd {I:BinOp} {t:TypeId} {a b:AV} {q:Bool} (aE:I= .eql∨I= .neq) (h:oM P t a b=some q) (ab:∀ v,toVal a=some v→(∀ O z,v≠ .int O z)∧(∀ s,v≠ .string s)) {D:Nat→Prop} {α:Nat→Nat×Nat} {B:Nat→Prop} {w:World} {u v:Value} (ha:a.Rel P α B w D u) (hb:b.Rel P α B w D v) (x y:Operand):
  (eqGuard I t x y u v).run P w= .ok () w∧(binOp I t u v).run P w= .ok (.bool (qL I q)) w:=by
 have go:∀ {u v:Value} {q:Bool},(∀ b7,u≠ .agg b7)→u≠ .nilIface→(∀ O z,u≠ .int O z)→(∀ s,u≠ .string s)→(∀ k x,u≠ .float k x)→(∀ k x y,u≠ .complex k x y)→(Op.equal t u v).run P w= .ok q w→
   (eqGuard I t x y u v).run P w= .ok () w∧(binOp I t u v).run P w= .ok (.bool (qL I q)) w:=
  fun a7 bx bD M b0 b1 b2=> ⟨KM a7 bx,I4 aE (fun s b6 e=>M s e.1) (fun k x b4 y e=>bD k x e.1) b0 b1 b2⟩
 unfold oM at h
 split at h
 ·rename_i ch ct J a1
  simp only [Bool.cond_eq_ite] at h
  split at h
  ·rename_i U
   rw [Bool.and_eq_true,Bool.and_eq_true,Bool.not_eq_true'] at U
   obtain ⟨⟨g1,g2⟩,a6⟩:=U
   rw [toVal_rel J ha,toVal_rel a1 hb]
   have Z:=Wc h
   exact ⟨WT g1 g2 a6,I4 aE (fun s b6 e=>(ab _ J).2 s e.1) (fun k x b4 y e=>(ab _ J).1 k x e.1) Z.1 Z.2 (Kh 20 h 10000 w (by decide))⟩
  ·cases h
 ·split at h
  ·rename_i G _
   cases h
   obtain ⟨_,cap,b5,rfl,_⟩:=ha
   cases hb
   exact go (by simp) (by simp) (by simp) (by simp) (by simp) (by simp) (Ki G)
  ·rename_i G _
   cases h
   obtain ⟨_,cap,b5,rfl,_⟩:=hb
   cases ha
   exact go (by simp) (by simp) (by simp) (by simp) (by simp) (by simp) (Wi G)
  ·rename_i G _
   cases h
   obtain ⟨_,_,rfl,_⟩:=ha
   cases hb
   exact go (by simp) (by simp) (by simp) (by simp) (by simp) (by simp) (We G)
  ·rename_i G _
   cases h
   obtain ⟨_,_,rfl,_⟩:=hb
   cases ha
   exact go (by simp) (by simp) (by simp) (by simp) (by simp) (by simp) (Wf G)
  ·rename_i G _
   cases h
   obtain ⟨_,rfl⟩:=ha
   cases hb
   exact go (by simp) (by simp) (by simp) (by simp) (by simp) (by simp) (Wg G)
  ·rename_i G _
   cases h
   obtain ⟨_,rfl⟩:=hb
   cases ha
   exact go (by simp) (by simp) (by simp) (by simp) (by simp) (by simp) (Wh G)
  ·rename_i G _
   rw [Bool.cond_eq_ite] at h
   split at h
   ·rename_i b3
    cases h
    obtain ⟨A,cap,rfl,_,_,M⟩:=ha
    obtain ⟨b,o,cs,ty,fr,rfl,_⟩:=M.resolve_left (by have:=of_decide_eq_true b3;omega)
    cases hb
    exact go (by simp) (by simp) (by simp) (by simp) (by simp) (by simp) (Ki G)
   ·cases h
  ·cases h
theorem KV {x:Value} (h:dh x=true):x= .bool (ar x):=by
 cases x with
 | bool b=>rfl
 | _=>cases h
theorem KW {x:Value} (h:bP x=true):x= .string (ag x):=by
 cases x with
 | string s=>rfl
 | _=>cases h
theorem Cj {R:Type} {M:TypeId→Value→Value→(Bool→Option R)→Option R} {E:TypeId→Value→Value→Option Bool} (I:∀ t x y K r,M t x y K=some r→∃ q,E t x y=some q∧K q=some r) {O U:List Value} :∀ {G:List Field} {K:Bool→Option R} {r:R},tD P M O U G K=some r→∃ q,oN P E O U G=some q∧K q=some r
 | [],K,r,h=> ⟨true,rfl,h⟩
 | f :: G,K,r,h=>by
  rw [tD] at h
  rw [oN]
  simp only [Bool.cond_eq_ite] at h ⊢
  split at h
  ·rename_i J
   rw [if_pos J]
   exact Cj I h
  ·rename_i J
   rw [if_neg J]
   split at h
   ·rename_i a b ha hb
    obtain ⟨q,Z,ab⟩:=I _ _ _ _ _ h
    obtain ⟨q',aE,a1⟩:=Cj I ab
    exact ⟨q&&q',by simp only [Z,aE],a1⟩
   ·cases h
theorem Kg {R:Type} :∀ (d:Nat) {t:TypeId} {x y:Value} {K:Bool→Option R} {r:R},xK P d t x y K=some r→∃ q,jm P d t x y=some q∧K q=some r
 | 0,t,x,y,K,r,h=>by cases h
 | d+1,t,x,y,K,r,h=>by
  unfold xK at h
  simp only [Bool.cond_eq_ite] at h
  split at h
  ·rename_i G
   split at h
   ·rename_i hb
    rw [Bool.and_eq_true] at hb
    refine ⟨_, ?_,h⟩
    rw [KV hb.1,KV hb.2]
    unfold jm
    rw [G];rfl
   ·cases h
  ·rename_i G
   split at h
   ·rename_i hb
    rw [Bool.and_eq_true] at hb
    refine ⟨_, ?_,h⟩
    rw [KW hb.1,KW hb.2]
    unfold jm
    rw [G];rfl
   ·cases h
  ·rename_i Z G
   split at h
   ·rename_i ab aE
    split at h
    ·cases h
    ·rename_i U
     obtain ⟨q,I,J⟩:=Cj (fun t x y K r M=>Kg d M) h
     refine ⟨q, ?_,J⟩
     unfold jm
     rw [G]
     simp only [Bool.cond_eq_ite,if_neg U]
     exact I
   ·cases h
  ·split at h
   ·rename_i q O
    exact ⟨q,O,h⟩
   ·cases h
theorem Kf {R:Type} {t:TypeId} {x y:AV} {K:Bool→Option R} {r:R} (h:Ci P t x y K=some r):∃ q,oM P t x y=some q∧K q=some r:=by
 unfold Ci at h
 split at h
 ·rename_i a b ha hb
  simp only [Bool.cond_eq_ite] at h
  split at h
  ·rename_i J
   obtain ⟨q,G,I⟩:=Kg 20 h
   refine ⟨q, ?_,I⟩
   unfold oM
   rw [ha,hb]
   simp only [Bool.cond_eq_ite,if_pos J]
   exact G
  ·cases h
 ·split at h
  ·rename_i U _
   rw [Bool.cond_eq_ite] at h
   split at h
   ·rename_i M
    refine ⟨false, ?_,h⟩
    unfold oM
    simp only [toVal,U,M,cond_true]
   ·cases h
  ·split at h
   ·rename_i q O
    exact ⟨q,O,h⟩
   ·cases h
theorem step_eq {I:BinOp} {t ty:TypeId} {x y:Operand} (J:o.op= .binOp I t x y ty) (h:wP P I t (aB T x) (aB T y) H k=some r) (aE:∀ v,toVal (aB T x)=some v→(∀ a6 z,v≠ .int a6 z)∧(∀ s,v≠ .string s)):ba P ro T o H (.some false []) lo k r:=by
 have a7:∀ c,o.op≠ .defer c:=fun c h=>by rw [J] at h;cases h
 have go:∀ {q:Bool},(I= .eql∨I= .neq)→oM P t (aB T x) (aB T y)=some q→k (.val (.bool (qL I q))) H=some r→ba P ro T o H (.some false []) lo k r:=by
  intro q a1 G ab
  refine fg ab a7 (fun D α B a w M=> ?_)
  have U:=M x (by rw [J];simp [Op.operands])
  have Z:=M y (by rw [J];simp [Op.operands])
  obtain ⟨e1,O⟩:=Wd a1 G aE U Z x y
  exact ⟨_,yV J rfl rfl e1 O,rfl⟩
 unfold wP at h
 split at h
 ·unfold xL at h
  obtain ⟨q,G,h⟩:=Kf h
  exact go (.inl rfl) G h
 ·unfold xL at h
  obtain ⟨q,G,h⟩:=Kf h
  exact go (.inr rfl) G h
 ·cases h
theorem ab2 {a6:BinOp} {t ty:TypeId} {x y:Operand} (I:o.op= .binOp a6 t x y ty) (h:EE P a6 t (aB T x) (aB T y) H k=some r):ba P ro T o H (.some false []) lo k r:=by
 have a7:∀ c,o.op≠ .defer c:=fun c h=>by rw [I] at h;cases h
 unfold EE at h
 split at h
 ·rename_i v Z
  split at h
  ·rename_i b2 a
   split at h
   ·rename_i b3 b a1
    have ab:(∃ v,k (.val v) H=some r∧∀ w,(binOp a6 t (.int b2 a) (.int b3 b)).run P w= .ok v w)→ba P ro T o H (.some false []) lo k r:=by
     rintro ⟨v,J,hb⟩
     refine fg J a7 (fun D α B bx w U=> ?_)
     have M:=U x (by rw [I];simp [Op.operands])
     have O:=U y (by rw [I];simp [Op.operands])
     rw [Z] at M
     rw [a1] at O
     exact ⟨v,yV I M O WS (hb w),rfl⟩
    unfold I3 at h
    split at h
    ·exact ab (N1 h (.inl rfl) t)
    ·exact ab (N1 h (.inr rfl) t)
    ·rename_i b5 n2
     simp only [Bool.cond_eq_ite] at h
     split at h
     ·rename_i J
      have J:=of_decide_eq_true J
      subst J
      exact ab (W2 ⟨b5,n2⟩ h t)
     ·cases h
   ·cases h
  ·rename_i s
   split at h
   ·rename_i b7 a1
    obtain ⟨v,J,hb⟩:=acH h t (P:=P)
    refine fg J a7 (fun D α B bx w U=> ?_)
    have M:=U x (by rw [I];simp [Op.operands])
    have O:=U y (by rw [I];simp [Op.operands])
    rw [Z] at M
    rw [a1] at O
    exact ⟨v,yV I M O WU (hb w),rfl⟩
   ·cases h
  ·rename_i b0 b1
   refine step_eq I (by rw [Z];exact h) (fun b6 G=> ?_)
   rw [Z] at G
   cases G
   exact ⟨fun b4 z e=>b0 b4 z e,fun s e=>b1 s e⟩
 ·rename_i bD
  refine step_eq I h (fun b6 G=> ?_)
  cases aE:aB T x with
  | val v=>exact absurd aE (bD v)
  | agg cs=>
   rw [aE] at G
   simp only [toVal,Bool.cond_eq_ite] at G
   split at G
   ·cases G;exact ⟨by simp,by simp⟩
   ·cases G
  | _=>rw [aE] at G;cases G
end
end Go.V
namespace Go.V
open Go Go.RowKit
theorem acQ (c:an) (o m:Nat):(c.sub o m).aW=(c.aW.drop o).take m:=by
 cases c <;> simp [an.sub,an.aW,List.map_take,List.map_drop]
theorem OW (c:an) (o m:Nat) (h:o+m≤c.len):(c.sub o m).len=m:=by
 cases c <;> simp [an.sub,an.len] at h ⊢ <;> omega
theorem CM {k:IntKind} {c:an} {zs:List Int} (h:c.tN k=some zs):c.aW=zs.map (fun z=> .val (.int k z))∧c.len=zs.length:=by
 cases c with
 | cells l=>have:=qH h;subst this;exact ⟨rfl,by simp [an.len]⟩
 | ints I J=>
  simp only [an.tN,Bool.cond_eq_ite] at h
  split at h
  ·rename_i G;have G:=of_decide_eq_true G;subst G;cases h;exact ⟨rfl,rfl⟩
  ·cases h
 | vals vs=>
  have:=qH h
  refine ⟨this, ?_⟩
  have:=congrArg List.length this
  simpa [an.len] using this
theorem wK {Z:Option IntKind} {a b c:an} {n:Nat} (h:a.app Z n b=some c) (aE:n≤a.len):c.aW=a.aW.take n ++ b.aW∧c.len=n+b.len:=by
 have G:∀ {c:an},c.aW=a.aW.take n ++ b.aW→c.aW=a.aW.take n ++ b.aW∧c.len=n+b.len:=by
  intro c I
  refine ⟨I, ?_⟩
  have:=congrArg List.length I
  rw [an.eZ,List.length_append,List.length_take,an.eZ,an.eZ] at this
  omega
 unfold an.app at h
 split at h
 ·rename_i k
  split at h
  ·rename_i ab O
   split at h
   ·rename_i a1 U
    cases h
    apply G
    rw [(CM O).1,(CM U).1]
    simp [an.aW,List.map_take]
   ·cases h
  ·cases h
 ·split at h
  ·cases h;apply G;simp [an.aW,List.map_take]
  ·cases h;apply G;simp [an.aW]
  ·rename_i ab l
   simp only [Bool.cond_eq_ite] at h
   split at h
   ·rename_i J
    cases h
    apply G
    have:(l.map lW).map AV.val=l:=by
     rw [List.map_map]
     conv=>rhs;rw [← List.map_id l]
     apply List.map_congr_left
     intro v M
     have:=List.all_eq_true.1 J v M
     cases v <;> simp [isVal] at this
     rfl
    simp [an.aW,List.map_take,this]
   ·cases h
  ·cases h;exact G rfl
theorem Cs {β:Type} (g:Nat→Nat→β) (sz:Nat):∀ (n q:Nat),q < n*sz→((List.range n).flatMap fun j=>(List.range sz).map (g j))[q]? =some (g (q / sz) (q % sz))
 | 0,q,h=>by omega
 | n+1,q,h=>by
  have U:0 < sz:=by
   rcases Nat.eq_zero_or_pos sz with G | G
   ·subst G;omega
   ·exact G
  have I:((List.range n).flatMap fun j=>(List.range sz).map (g j)).length=n*sz:=by
   simp [List.length_flatMap,List.map_const']
  rw [List.range_succ,List.flatMap_append]
  by_cases M:q < n*sz
  ·rw [List.getElem?_append_left (by rw [I];exact M)]
   exact Cs g sz n q M
  ·rw [List.getElem?_append_right (by rw [I];omega),I]
   have Z:(n+1)*sz=n*sz+sz:=Nat.succ_mul n sz
   have J:q / sz=n:=by
    rw [Nat.div_eq_iff U]
    have:(n+1)*sz=n*sz+sz:=Nat.succ_mul n sz
    constructor <;> omega
   have O:q % sz=q - n*sz:=by
    have:=Nat.div_add_mod q sz
    rw [J,Nat.mul_comm] at this
    omega
   rw [J,O]
   simp only [List.flatMap_cons,List.flatMap_nil,List.append_nil]
   rw [List.getElem?_map,List.getElem?_range (by omega)]
   rfl
section
variable {P : Program} {D : Nat → Prop} {α : Nat → Nat × Nat} {B : Nat → Prop} {w : World}
structure Src (P:Program) (D:Nat→Prop) (α:Nat→Nat×Nat) (B:Nat→Prop) (w:World) (c:an) (n sz:Nat) (u:Value) (news:List Value):Prop where
 len:news.length=n*sz
 SJ:c.len=n*sz
 rel:aj P α B w c.aW D news
 lenOf:∀ w2,(Builtin.lenOf u).run P w2= .ok n w2
 cells:∀ w2,w2.heap=w.heap→(Builtin.firstCells sz n u).run P w2= .ok news.toArray w2
theorem xP {a:Addr} {n m cap sz:Nat} {G:List Value} (J:G.length=n*sz) (h:∀ j v,G[j]? =some v→w.cell? (a.add j)=some v) (w2:World) (M:w2.heap=w.heap):(Builtin.firstCells sz n (.slice (some a) m cap)).run P w2= .ok G.toArray w2:=
 run_firstCells_some w2 sz n a m cap G J (fun j v I=>by have:=h j v I;unfold World.cell? at this ⊢;rw [M];exact this)
theorem qO {A:Option Addr} {m cap sz:Nat} (w2:World):(Builtin.firstCells sz 0 (.slice A m cap)).run P w2= .ok #[] w2:=by
 cases A with
 | none=>exact run_firstCells_none w2 sz 0 m cap
 | some a=>exact run_firstCells_some w2 sz 0 a m cap [] (by simp) (fun j v G=>by simp at G)
theorem Ks {β G:Type} (g:β→G):∀ l:List β,(l.flatMap fun x=> [g x])=l.map g
 | []=>rfl
 | x :: l=>by rw [List.flatMap_cons,Ks g l];rfl
theorem Ek {k:Option IntKind} {sz n:Nat} {f:Nat→Nat→AV} {c:an} (G:vw k sz n f=some c):c.aW=(List.range n).flatMap fun j=>(List.range sz).map (f j):=by
 unfold vw at G
 split at G
 ·simp only [Bool.cond_eq_ite] at G
  split at G
  ·rename_i J
   rw [beq_iff_eq] at J
   split at G
   ·rename_i zs U
    cases G
    subst J
    simp only [an.aW]
    rw [← qH U]
    exact (Ks (fun j=>f j 0) _).symm
   ·cases G
  ·cases G
 ·simp only [Bool.cond_eq_ite] at G
  split at G
  ·rename_i O
   cases G
   refine List.ext_getElem? fun i=> ?_
   by_cases hi:i < n*sz
   ·rw [Cs f sz n i hi]
    have I:=List.all_eq_true.1 O i (List.mem_range.2 hi)
    show ((ai sz n f).map AV.val)[i]? =_
    unfold ai
    rw [List.map_map,List.getElem?_map,List.getElem?_range hi,Option.map_some]
    show some (AV.val (lW (f (i / sz) (i % sz))))=_
    cases M:f (i / sz) (i % sz) with
    | val v=>rfl
    | _=>rw [M] at I;exact absurd I (by simp [isVal])
   ·rw [List.getElem?_eq_none (by simp only [an.aW,ai,List.length_map,List.length_range];omega),List.getElem?_eq_none (by simp only [List.length_flatMap,List.map_const',List.length_map,List.length_range,List.sum_replicate_nat];omega)]
  ·cases G
theorem NM {R:Type} {k:Option IntKind} {sz n:Nat} {f:Nat→Nat→AV} {K:an→Option R} {r:R} (h:yU k sz n f K=some r):∃ c,vw k sz n f=some c∧K c=some r:=by
 unfold yU at h
 unfold vw
 split at h
 ·simp only [Bool.cond_eq_ite] at h ⊢
  split at h
  ·rename_i I
   rw [if_pos I]
   split at h
   ·rename_i zs J
    exact ⟨_,rfl,h⟩
   ·cases h
  ·cases h
 ·simp only [Bool.cond_eq_ite] at h ⊢
  split at h
  ·rename_i G
   exact ⟨_,by rw [if_pos G],h⟩
  ·cases h
theorem Ct {β:Type} (g:Nat→Nat→β) (sz n:Nat):((List.range n).flatMap fun j=>(List.range sz).map (g j)).length=n*sz:=by
 simp [List.length_flatMap,List.map_const']
theorem NP {k:Option IntKind} {t:TypeId} {n:Nat} {f:Nat→Nat→AV} {c:an} (a7:vw k (P.cellsOf t) n f=some c) {fl:Bool} {u:Value} (b1:(AV.lst fl t n f).Rel P α B w D u):∃ b3,Src P D α B w c n (P.cellsOf t) u b3:=by
 obtain ⟨A,cap,rfl,b5,_,b0⟩:=b1
 have M:=Ek a7
 have G:c.len=n*P.cellsOf t:=by rw [← an.eZ,M,Ct]
 rcases b0 with rfl | ⟨b,o,cs,ty,fr,rfl,b4,a1,a6⟩
 ·refine ⟨[],by simp,G, ?_,fun _=>rfl,fun w2 _=>qO w2⟩
  rw [M];rfl
 ·obtain ⟨l,J,O⟩:=yh (R:=fun q y=>cs[o+q]? =some y∧(f (q / P.cellsOf t) (q % P.cellsOf t)).Rel P α B w bc y) (n*P.cellsOf t) (fun q Z=>by
   have ab:0 < P.cellsOf t:=by
    rcases Nat.eq_zero_or_pos (P.cellsOf t) with I | I
    ·rw [I] at Z;omega
    ·exact I
   obtain ⟨y,e1,aE⟩:=a6 (q / P.cellsOf t) (q % P.cellsOf t) ((Nat.div_lt_iff_lt_mul ab).2 Z) (Nat.mod_lt _ ab)
   refine ⟨y, ?_,aE⟩
   rw [← e1]
   congr 1
   have:=Nat.div_add_mod q (P.cellsOf t)
   rw [Nat.mul_comm] at this
   omega)
  refine ⟨l,J,G,aj.nO (by rw [J,an.eZ,G]) (fun i v hi=> ?_),fun _=>rfl,fun w2 b2=>xP J (fun j v bx=>by rw [fH,me a1];exact (O j v bx).1) w2 b2⟩
  have bD:i < n*P.cellsOf t:=by rw [← G,← an.eZ];exact (List.getElem?_eq_some_iff.1 hi).1
  rw [M,Cs f _ n i bD] at hi
  cases hi
  have U:i < l.length:=by omega
  exact ⟨l[i],List.getElem?_eq_getElem U,yR (O i l[i] (List.getElem?_eq_getElem U)).2⟩
theorem wV (s:ByteArray):(dv s).length=s.size:=by unfold dv;rw [List.length_map,Array.length_toList];rfl
theorem Sk (s:ByteArray) (w2:World):(Builtin.firstCells 1 s.size (.string s)).run P w2= .ok ((dv s).map (Value.int .u8)).toArray w2:=by
 simp only [Builtin.firstCells,Sem.run_pure]
 congr 1
 apply Array.ext'
 have:(s.extract 0 s.size)=s:=by
  rw [OT]
  unfold dP
  obtain ⟨⟨x⟩⟩:=s
  simp [ByteArray.size]
 rw [this]
 simp [dv]
theorem Oa {R:Type} {H:Hp} {t:TypeId} {v:AV} {K:an→Nat→Option R} {r:R} (h:rT P H t v K=some r):∃ c n,K c n=some r∧c.len=n*P.cellsOf t∧∀ {B0:Nat→Prop} {w0:World} {D:Nat→Prop} {α:Nat→Nat×Nat} {G:Hf} {w:World} {u:Value},(∀ m b,(m,b) ∈ tid false v→m < H.length→G m=H[m]?)→Ok P B0 w0 D α G w→v.Rel P α (Own B0 D α G) w D u→∃ b6,Src P D α (Own B0 D α G) w c n (P.cellsOf t) u b6:=by
 unfold rT at h
 simp only [Bool.cond_eq_ite] at h
 split at h
 ·refine ⟨_,_,h,by simp [an.len],fun {B0 w0 D α G w u} U O J=> ?_⟩
  rw [show u= .slice none 0 0 from J]
  exact ⟨[],by simp,by simp [an.len],rfl,fun _=>rfl,fun w2 _=>qO w2⟩
 ·rename_i s
  split at h
  ·rename_i aE
   rw [beq_iff_eq] at aE
   refine ⟨_,_,h,by rw [aE,Nat.mul_one];exact wV s,fun {B0 w0 D α G w u} U O J=> ?_⟩
   rw [show u= .string s from J,aE]
   refine ⟨(dv s).map (Value.int .u8), ?_, ?_, ?_,fun _=>rfl,fun w2 _=>Sk s w2⟩
   ·rw [List.length_map,wV,Nat.mul_one]
   ·show (dv s).length=_;rw [wV,Nat.mul_one]
   ·show aj P α _ w ((dv s).map fun z=>AV.val (.int .u8 z)) D _
    rw [show (dv s).map (fun z=>AV.val (.int .u8 z))=((dv s).map (Value.int .u8)).map AV.val by rw [List.map_map];rfl]
    exact aj.vals _
  ·cases h
 ·rename_i fl b7 i off len
  split at h
  ·rename_i M
   rw [beq_iff_eq] at M
   subst M
   split at h
   ·rename_i c ty st a6
    split at h
    ·cases h
    ·rename_i b3
     split at h
     ·rename_i Z
      have Z:=of_decide_eq_true Z
      refine ⟨_,_,h,OW c off _ Z,fun {B0 w0 D α G w u} U O J=> ?_⟩
      obtain ⟨hi,cap,c4,rfl,c3,_,ab⟩:=J
      have b2:=(List.getElem?_eq_some_iff.1 a6).1
      have b0:G i=some (.row c ty st):=(U i false (by simp [tid]) b2).trans a6
      obtain ⟨cs,fr,e1,ch,ct,c0,a1⟩:=ig O hi b0 (by simpa using b3)
      have bx:=aj.len a1
      rw [an.eZ] at bx
      have bD:(((cs.toList.take c.len).drop off).take (len*P.cellsOf t)).length=len*P.cellsOf t:=by
       rw [List.length_take,List.length_drop,bx];omega
      have b1:=OW c off (len*P.cellsOf t) Z
      refine ⟨((cs.toList.take c.len).drop off).take (len*P.cellsOf t),bD,b1,by rw [acQ];exact aj.take (aj.drop a1 _) _,fun _=>rfl,fun w2 b4=> ?_⟩
      by_cases b5:len=0
      ·subst b5
       rw [qO w2]
       simp
      ·rcases ab with ab | ⟨rfl,ab⟩
       ·omega
       ·refine xP bD (fun j y I=> ?_) w2 b4
        rw [List.getElem?_take] at I
        split at I
        ·rw [List.getElem?_drop,List.getElem?_take] at I
         split at I
         ·rw [Array.getElem?_toList] at I
          rw [fH,me e1]
          exact I
         ·cases I
        ·cases I
     ·cases h
   ·cases h
  ·cases h
 ·rename_i fl b7 n f
  split at h
  ·rename_i M
   rw [beq_iff_eq] at M
   subst M
   obtain ⟨c,a7,h⟩:=NM h
   exact ⟨_,_,h,by rw [← an.eZ,Ek a7,Ct],fun {B0 w0 D α G w u} U O J=>NP a7 J⟩
  ·cases h
 ·cases h
end
end Go.V
namespace Go.V
open Go Go.RowKit
section
variable {P : Program}
theorem Bu {tx:TypeId} (h:mb P tx=true):(∃ e,P.underlying tx=some (.slice e))∨P.underlying tx=some .string:=by
 unfold mb at h
 split at h
 ·rename_i e G;exact .inl ⟨e,G⟩
 ·rename_i G;exact .inr G
 ·cases h
theorem Q0 {ts tx ty e:TypeId} {i:TypeInfo} (O:P.underlying ts=some (.slice e)) (hi:P.info? e=some i) (G:mb P tx=true) {A:Option Addr} {m c:Nat} {u:Value} {w:World} (M:(Builtin.lenOf u).run P w= .ok 0 w) (J:(Builtin.firstCells i.size 0 u).run P w= .ok #[] w) (I:m≤c):
  (Builtin.append_ #[ts,tx] ty #[.slice A m c,u]).run P w= .ok (.slice A m c) w:=by
 rcases Bu G with ⟨U,G⟩ | G <;> cases A <;> simp [Builtin.append_,run_underlying O,run_underlying G,sizeOf,typeInfo,hi,M,J,I,storeCells,Sem.run_pure]
theorem Q1 {ts tx ty e:TypeId} {i:TypeInfo} (Z:P.underlying ts=some (.slice e)) (hi:P.info? e=some i) (G:mb P tx=true) {a:Addr} {m c n:Nat} {u:Value} {I:List Value} {w w':World} (O:(Builtin.lenOf u).run P w= .ok n w) (M:(Builtin.firstCells i.size n u).run P w= .ok I.toArray w) (J:m+n≤c)
  (U:(storeCells (a.add (m*i.size)) I).run P w= .ok () w'):
  (Builtin.append_ #[ts,tx] ty #[.slice (some a) m c,u]).run P w= .ok (.slice (some a) (m+n) c) w':=by
 rcases Bu G with ⟨ab,G⟩ | G <;> simp [Builtin.append_,run_underlying Z,run_underlying G,sizeOf,typeInfo,hi,O,M,J,U,Sem.run_pure]
theorem IX {ts tx ty e:TypeId} {i:TypeInfo} {z:Value} (a7:P.underlying ts=some (.slice e)) (hi:P.info? e=some i) (bx:i.zero=some z) (G:mb P tx=true) {A:Option Addr} {m c n:Nat} {u:Value} {J I:List Value} {w:World} (aE:(Builtin.lenOf u).run P w= .ok n w) (U:(Builtin.firstCells i.size n u).run P w.drew= .ok I.toArray w.drew)
  (a6:(Builtin.firstCells i.size m (.slice A m c)).run P w.drew= .ok J.toArray w.drew) (ab:c < m+n) (b1:m+n≤9223372036854775807) (Z:(m+n)*i.bytes≤140737488355328):
  (Builtin.append_ #[ts,tx] ty #[.slice A m c,u]).run P w= .ok (.slice (some ⟨w.heap.size,0,none⟩) (m+n) (grownCap w (m+n) c e)) (w.drew.alloc (.cells (J.toArray ++ I.toArray ++ Builtin.zeroCells z.cells (grownCap w (m+n) c e - (m+n))) e)):=by
 have a1:¬ (m+n≤c):=by omega
 have O:¬ (9223372036854775807 < ((m:Int)+(n:Int))):=by omega
 have b0:=growslice_fits ab Z
 have M:¬ (281474976710656 < Builtin.nextslicecap (m+n) c*i.bytes):=by omega
 rcases Bu G with ⟨bD,G⟩ | G <;>
 ·simp [Builtin.append_,run_underlying a7,run_underlying G,sizeOf,typeInfo,zeroValue,hi,bx,aE,a1,O,M,Question.forced,U,a6,newRow,grownCap]
  try (congr 2;apply Array.ext';simp [List.append_assoc])
end
end Go.V
namespace Go.V
open Go Go.RowKit
section
variable {R : Type} {P : Program} {ro : Option Nat} {T : List AV} {o : Oper} {H : Hp} {lo : Nat} {k : Kn R} {r : R}
theorem qg {e:TypeId} {l:List AV} (h:zeroCells P e=some l):∃ i z,P.info? e=some i∧i.zero=some z∧l=z.cells.toList.map .val∧P.cellsOf e=i.size∧P.bytesOf e=i.bytes:=by
 unfold zeroCells at h
 split at h
 ·rename_i z G
  cases h
  simp only [zeroValue,typeInfo,bind,Sem.bind,mT,program] at G
  cases hi:P.info? e with
  | none=>rw [hi] at G;cases G
  | some i=>
   rw [hi] at G
   simp only [pure,Sem.bind] at G
   cases I:i.zero with
   | none=>rw [I] at G;cases G
   | some J=>
    rw [I] at G
    simp only [mT,Option.some.injEq] at G
    subst G
    exact ⟨i,J,rfl,I,rfl,by simp [Program.cellsOf,hi],by simp [Program.bytesOf,hi]⟩
 ·cases h
theorem zW {e:TypeId} (h:qf P e=true):∃ i z,P.info? e=some i∧i.zero=some z∧z.cells.size=P.cellsOf e∧P.cellsOf e=i.size∧P.bytesOf e=i.bytes:=by
 unfold qf at h
 split at h
 ·rename_i l O
  obtain ⟨i,z,G,I,rfl,J,M⟩:=qg O
  rw [beq_iff_eq,List.length_map,Array.length_toList] at h
  exact ⟨i,z,G,I,h,J,M⟩
 ·cases h
theorem vx {c:Call} {s x:Operand} {ts tx:TypeId} (U:o.op= .call c) (G:c.callee= .builtin .append) (ha:c.args.toList= [s,x]) (I:c.argTypes.toList= [ts,tx]) {a:Act} {w w':World} {v:Value} (Z:∀ ty,(Builtin.append_ #[ts,tx] ty #[a.eval s,a.eval x]).run P w= .ok v w'):(execOp a.eval o).run P w= .ok (.value v) w':=by
 obtain ⟨aE,M,J⟩:=c
 simp only at G ha I
 subst G
 have O:M= #[s,x]:=Array.ext' ha
 have ab:J= #[ts,tx]:=Array.ext' I
 subst O ab
 unfold execOp
 rw [U]
 simp [resolve,invoke,builtin,Z,Result.andThen]
theorem Ea {n e:Nat} (h:aQ P n e=true):n*P.bytesOf e≤140737488355328∧n≤9223372036854775807:=by
 unfold aQ at h
 rw [Bool.and_eq_true,decide_eq_true_eq,decide_eq_true_eq] at h
 exact h
theorem QW {c:an} (h:c.bJ=true) {D:Nat→Prop} {α:Nat→Nat×Nat} {B:Nat→Prop} {w:World} {G:List Value} (I:aj P α B w c.aW D G):∀ y ∈ G,y.oneCell'=true:=by
 cases c with
 | cells l=>exact aj.one h I
 | ints M zs=>
  have:G=zs.map (.int M):=aj.yq (l:=zs.map (.int M)) (by rw [List.map_map];exact I)
  subst this
  intro y J
  obtain ⟨z,_,rfl⟩:=List.mem_map.1 J
  rfl
 | vals vs=>
  have:G=vs:=aj.yq I
  subst this
  exact fun y J=>List.all_eq_true.1 h y J
theorem O5 {β:Type} (a b c:List β) {m:Nat} (h:m=a.length+b.length):(a ++ b ++ c).take m=a ++ b:=by
 rw [h,← List.length_append];exact List.take_left
theorem KK {D:Nat→Prop} {α:Nat→Nat×Nat} {B:Nat→Prop} {w:World} {c:an} {e:TypeId} {b m n cap sz:Nat} {I G:List Value} {z:Value} (aE:w.heap[b]? =some (.cells (I.toArray ++ G.toArray ++ Builtin.zeroCells z.cells (cap - (m+n))) e)) (O:I.length=m*sz) (M:G.length=n*sz) (J:c.len=(m+n)*sz) (a1:z.cells.size=sz) (U:m+n≤cap)
  (Z:aj P α B w c.aW D (I ++ G)):cO P α B w D (.row c e .live) (b,cap*sz):=by
 have ab:(I.toArray ++ G.toArray ++ Builtin.zeroCells z.cells (cap - (m+n))).size=cap*sz:=by
  simp only [Array.size_append,List.size_toArray,size_zeroCells,a1,O,M]
  rw [← Nat.add_mul,← Nat.add_mul];congr 1;omega
 refine .inr ⟨_,_,aE,ab,fun _ i _=>by simp, ?_, ?_⟩
 ·rw [J];exact Nat.mul_le_mul_right _ U
 ·have:(I.toArray ++ G.toArray ++ Builtin.zeroCells z.cells (cap - (m+n))).toList.take c.len=I ++ G:=by
   rw [Array.toList_append,Array.toList_append]
   exact O5 _ _ _ (by rw [J,O,M,Nat.add_mul])
  rw [this]
  exact Z
section
variable {c : Call} {s x : Operand} {ts tx e : TypeId}
theorem EV (M:o.op= .call c) (b3:c.callee= .builtin .append) (ha:c.args.toList= [s,x]) (c7:c.argTypes.toList= [ts,tx]) (dx:P.underlying ts=some (.slice e)) (ch:mb P tx=true) (ed:qf P e=true) {c' cx:an} {m n:Nat} (c4:aQ P (m+n) e=true) (et:n≠0)
  (b5:k (.sl false e H.length 0 (m+n)) (H ++ [.row c' e .live])=some r) (eb:∀ {B0:Nat→Prop} {w0:World} {D:Nat→Prop} {α:Nat→Nat×Nat} {I:Hf} {w:World} {u:Value},(∀ m b,(m,b) ∈ tid false (aB T x)→m < H.length→I m=H[m]?)→Ok P B0 w0 D α I w→(aB T x).Rel P α (Own B0 D α I) w D u→∃ U,Src P D α (Own B0 D α I) w cx n (P.cellsOf e) u U)
  (b6:c'.len=(m+n)*P.cellsOf e) (ea:∀ j,(j,true) ∈ tid true (aB T s)→j < H.length)
  (c5:∀ {B0:Nat→Prop} {w0:World} {D:Nat→Prop} {α:Nat→Nat×Nat} {I:Hf} {w:World} {u:Value},(∀ m b,(m,b) ∈ tid true (aB T s)→m < H.length→I m=H[m]?)→Ok P B0 w0 D α I w→(aB T s).Rel P α (Own B0 D α I) w D u→∃ A cap J aW,u= .slice A m cap∧cap=m∧J.length=m*P.cellsOf e∧c'.aW=aW ++ cx.aW∧aj P α (Own B0 D α I) w aW D J∧∀ w2,w2.heap=w.heap→(Builtin.firstCells (P.cellsOf e) m u).run P w2= .ok J.toArray w2):
  ba P ro T o H (.some false (tid true (aB T s) ++ tid false (aB T x))) lo k r:=by
 have en:∀ c,o.op≠ .defer c:=fun c h=>by rw [M] at h;cases h
 obtain ⟨i,z,hi,eh,eg,bx,b2⟩:=zW ed
 obtain ⟨ct,c0⟩:=Ea c4
 have ms:s ∈ c.args:=Array.mem_toList_iff.1 (by rw [ha];simp)
 have ek:x ∈ c.args:=Array.mem_toList_iff.1 (by rw [ha];simp)
 refine ⟨_,_,b5,fun ep j G=>List.getElem?_append_left (by omega),fun B0 w0=>CF (fun j G=> ?_) en rfl (fun h D α a w a6 Z ab=> ?_)⟩
 ·rcases List.mem_append.1 G with G | G
  ·exact ea j G
  ·exact absurd G (fF _ _)
 ·have c6:=ab s (by rw [M];simp only [Op.operands,Call.operands,Array.mem_append];exact .inr ms)
  have ec:=ab x (by rw [M];simp only [Op.operands,Call.operands,Array.mem_append];exact .inr ek)
  obtain ⟨A,cap,J,aW,aE,eo,b7,b1,c3,b4⟩:=c5 (fun j b G=>a6 j b (List.mem_append_left _ G)) Z c6
  obtain ⟨U,O⟩:=eb (fun j b G=>a6 j b (List.mem_append_right _ G)) Z ec
  have a1:=grownCap_ge w (m+n) cap e
  refine ⟨w.drew, .cells (J.toArray ++ U.toArray ++ Builtin.zeroCells z.cells (grownCap w (m+n) cap e - (m+n))) e,grownCap w (m+n) cap e*P.cellsOf e, .slice (some ⟨w.heap.size,0,none⟩) (m+n) (grownCap w (m+n) cap e),wO w,fun ds=>by simp,vx M b3 ha c7 (fun ty=> ?_),fun D' α' B' w' a7 dy=> ?_,fun D' α' B' w' b0 bD=> ?_⟩
  ·rw [aE]
   exact IX dx hi eh ch (O.lenOf w) (by rw [← bx];exact O.cells _ rfl) (by rw [← bx,← aE];exact b4 _ rfl) (by omega) c0 (by rw [← b2];exact ct)
  ·exact KK dy b7 O.len b6 eg a1 (by rw [b1];exact aj.append (aj.mono _ _ a7 c3) (aj.mono _ _ a7 O.rel))
  ·exact ⟨b0,_,0,by rw [bD];rfl,a1,(fun h=>by cases h), .inr ⟨rfl,by rw [bD,Nat.zero_add];exact Nat.le_refl _⟩⟩
theorem EW (J:o.op= .call c) (aE:c.callee= .builtin .append) (ha:c.args.toList= [s,x]) (b3:c.argTypes.toList= [ts,tx]) (b4:P.underlying ts=some (.slice e)) (b0:mb P tx=true) (ch:qf P e=true) {cx:an} (bx:k (aB T s) H=some r)
  (b6:∀ {B0:Nat→Prop} {w0:World} {D:Nat→Prop} {α:Nat→Nat×Nat} {I:Hf} {w:World} {u:Value},(∀ m b,(m,b) ∈ tid false (aB T x)→m < H.length→I m=H[m]?)→Ok P B0 w0 D α I w→(aB T x).Rel P α (Own B0 D α I) w D u→∃ O,Src P D α (Own B0 D α I) w cx 0 (P.cellsOf e) u O)
  (b5:∀ j,(j,true) ∈ tid true (aB T s)→j < H.length)
  (b1:∀ {D:Nat→Prop} {α:Nat→Nat×Nat} {B:Nat→Prop} {w:World} {u:Value},(aB T s).Rel P α B w D u→∃ A m cap,u= .slice A m cap∧m≤cap):
  ba P ro T o H (.some false (tid true (aB T s) ++ tid false (aB T x))) lo k r:=by
 have c0:∀ c,o.op≠ .defer c:=fun c h=>by rw [J] at h;cases h
 obtain ⟨i,z,hi,c5,c4,b2,c3⟩:=zW ch
 have ms:s ∈ c.args:=Array.mem_toList_iff.1 (by rw [ha];simp)
 have ct:x ∈ c.args:=Array.mem_toList_iff.1 (by rw [ha];simp)
 refine ⟨_,H,bx,fun _ _ _=>rfl,fun B0 w0=>KO (fun j G=> ?_) c0 (fun h D α a w a7 ab U=> ?_)⟩
 ·rcases List.mem_append.1 G with G | G
  ·exact b5 j G
  ·exact absurd G (fF _ _)
 ·have Z:=U s (by rw [J];simp only [Op.operands,Call.operands,Array.mem_append];exact .inr ms)
  have b7:=U x (by rw [J];simp only [Op.operands,Call.operands,Array.mem_append];exact .inr ct)
  obtain ⟨O,M⟩:=b6 (fun j b G=>a7 j b (List.mem_append_right _ G)) ab b7
  obtain ⟨A,m,cap,a6,a1⟩:=b1 Z
  refine ⟨a.eval s,vx J aE ha b3 (fun ty=> ?_),Z⟩
  have bD:O= []:=List.eq_nil_of_length_eq_zero (by rw [M.len,Nat.zero_mul])
  rw [a6]
  exact Q0 b4 hi b0 (M.lenOf w) (by rw [← b2];have:=M.cells w rfl;rw [bD] at this;exact this) a1
theorem ach (G:o.op= .call c) (bD:c.callee= .builtin .append) (ha:c.args.toList= [s,x]) (b4:c.argTypes.toList= [ts,tx]) (hint:xY P tx=true) (h:CD P H ts (aB T s) (aB T x) k=some r):
  ba P ro T o H (.some false (tid true (aB T s) ++ tid false (aB T x))) lo k r:=by
 have c4:∀ c,o.op≠ .defer c:=fun c h=>by rw [G] at h;cases h
 unfold CD at h
 split at h
 ·rename_i e a6 n b3 ab aE
  have b6:=vE b3
  simp only [Bool.cond_eq_ite] at h
  split at h
  ·rename_i U
   rw [Bool.and_eq_true,Bool.and_eq_true,Bool.and_eq_true,decide_eq_true_eq,decide_eq_true_eq] at U
   obtain ⟨⟨⟨ea,b2⟩,ch⟩,c6⟩:=U
   obtain ⟨kn,b5⟩:∃ kn,P.underlying tx=some (.int kn):=by
    unfold xY at hint
    split at hint
    ·rename_i kn b1;exact ⟨kn,b1⟩
    ·cases hint
   obtain ⟨i,z,hi,c0,ct,ed,bx⟩:=zW ch
   obtain ⟨eb,ec⟩:=Ea b2
   have ms:s ∈ c.args:=Array.mem_toList_iff.1 (by rw [ha];simp)
   have c3:x ∈ c.args:=Array.mem_toList_iff.1 (by rw [ha];simp)
   refine ⟨_,_,h,fun dy j M=>List.getElem?_append_left (by omega),fun B0 w0=>CF (fun j M=> ?_) c4 rfl (fun h D α a w c7 c5 O=> ?_)⟩
   ·rw [ab,aE] at M;simp [tid] at M
   ·have I:=O s (by rw [G];simp only [Op.operands,Call.operands,Array.mem_append];exact .inr ms)
    have J:=O x (by rw [G];simp only [Op.operands,Call.operands,Array.mem_append];exact .inr c3)
    rw [ab] at I
    rw [aE] at J
    have I:a.eval s= .slice none 0 0:=I
    have J:a.eval x= .int a6 n:=J
    have b0:=grownCap_ge w n.toNat 0 e
    have e0:((n.toNat:Nat):Int)=n:=Int.toNat_of_nonneg (by omega)
    refine ⟨w.drew, .cells (Builtin.zeroCells z.cells n.toNat ++ Builtin.zeroCells z.cells (grownCap w n.toNat 0 e - n.toNat)) e,grownCap w n.toNat 0 e*P.cellsOf e, .slice (some ⟨w.heap.size,0,none⟩) n.toNat (grownCap w n.toNat 0 e),wO w,fun ds=>by simp,vx G bD ha b4 (fun ty=> ?_),fun D' α' B' w' dx b7=> ?_,fun D' α' B' w' a7 a1=> ?_⟩
    ·rw [I,J]
     have Z:=Lib.run_append_nil_zeros w ts tx ty e i z a6 kn b6 b5 hi c0 n.toNat (by omega) (by omega) (by omega) (by rw [← bx];omega)
     rw [e0] at Z
     exact Z
    ·refine .inr ⟨_,_,b7, ?_,fun _ i _=>by simp,Nat.zero_le _, ?_⟩
     ·simp only [Array.size_append,size_zeroCells,ct]
      rw [← Nat.add_mul];congr 1;omega
     ·show aj P _ _ _ [] _ (List.take 0 _)
      rw [List.take_zero]
      exact aj.vals []
    ·exact ⟨a7,_,0,by rw [a1];rfl,b0,(fun h=>by cases h), .inr ⟨rfl,by rw [a1,Nat.zero_add];exact Nat.le_refl _⟩⟩
  ·cases h
 ·cases h
end
end
end Go.V
namespace Go.V
open Go Go.RowKit
section
variable {R : Type} {P : Program} {ro : Option Nat} {T : List AV} {o : Oper} {H : Hp} {lo : Nat} {k : Kn R} {r : R}
variable {c : Call} {s x : Operand} {ts tx e : TypeId}
theorem ab1 (a1:o.op= .call c) (ep:c.callee= .builtin .append) (ha:c.args.toList= [s,x]) (fa:c.argTypes.toList= [ts,tx]) (fc:P.underlying ts=some (.slice e)) (e5:mb P tx=true) (hS:qf P e=true) {G c' cx:an} {i len n:Nat} {fl:Bool} (hE:aQ P (len+n) e=true)
  (e6:aB T s= .sl fl e i 0 len) (eg:H[i]? =some (.row G e .live)) (h3:¬ i < lo) (e3:len*P.cellsOf e≤G.len) (hA:cx.bJ=true) (hl:G.app (intKind P e) (len*P.cellsOf e) cx=some c')
  (ht:k (.sl false e H.length 0 (len+n)) (H.set i (.row G e .dead) ++ [.row c' e .live])=some r) (hQ:∀ {B0:Nat→Prop} {w0:World} {D:Nat→Prop} {α:Nat→Nat×Nat} {b0:Hf} {w:World} {u:Value},(∀ m b,(m,b) ∈ tid false (aB T x)→m < H.length→b0 m=H[m]?)→Ok P B0 w0 D α b0 w→(aB T x).Rel P α (Own B0 D α b0) w D u→∃ Z,Src P D α (Own B0 D α b0) w cx n (P.cellsOf e) u Z):
  ba P ro T o H (.some false (tid true (aB T s) ++ tid false (aB T x))) lo k r:=by
 have fs:∀ c,o.op≠ .defer c:=fun c h=>by rw [a1] at h;cases h
 obtain ⟨ti,z,hi,hU,hT,b3,hn⟩:=zW hS
 obtain ⟨hB,hD⟩:=Ea hE
 have ms:s ∈ c.args:=Array.mem_toList_iff.1 (by rw [ha];simp)
 have hV:x ∈ c.args:=Array.mem_toList_iff.1 (by rw [ha];simp)
 have c7:i < H.length:=(List.getElem?_eq_some_iff.1 eg).1
 obtain ⟨eo,ct⟩:=wK hl e3
 have b2:∀ m,(m,true) ∈ (tid true (aB T s) ++ tid false (aB T x))↔m=i:=by
  intro m
  rw [List.mem_append,e6]
  constructor
  ·rintro (h | h)
   ·simpa [tid] using h
   ·exact absurd h (fF _ _)
  ·rintro rfl;left;simp [tid]
 refine ⟨_,_,ht,fun h0 m U=> ?_,fun B0 w0=> ⟨by simp,fun m U hv=> ?_,fun h ez ro D α a w K Q bx hy en eh=> ?_⟩⟩
 ·rw [List.getElem?_append_left (by rw [List.length_set];omega),List.getElem?_set_ne (by omega)]
 ·rw [List.getElem?_append_left (by rw [List.length_set];exact U),List.getElem?_set_ne]
  rintro rfl
  exact hv ((b2 i).2 rfl)
 ·have e0:cA h H (H.set i (.row G e .dead) ++ [.row c' e .live]) (tid true (aB T s) ++ tid false (aB T x))=a8 (a8 h i (some (.row G e .dead))) H.length (some (.row c' e .live)):=by
   funext m
   unfold cA a8
   by_cases U:m=H.length
   ·subst U
    rw [if_pos (.inr ⟨Nat.le_refl _,by simp⟩),if_pos rfl]
    simp
   ·rw [if_neg U]
    by_cases dx:m=i
    ·subst dx
     rw [if_pos (.inl ((b2 m).2 rfl)),if_pos rfl,List.getElem?_append_left (by rw [List.length_set];exact c7),List.getElem?_set_self c7]
    ·rw [if_neg dx,if_neg]
     rintro (ed | ⟨ed,hj⟩)
     ·exact dx ((b2 m).1 ed)
     ·simp at hj;omega
  have e4:¬ D H.length:=hy.1 _ (Nat.le_refl _) (.inl (by simp))
  have b7:h i=some (.row G e .live):=(ez i ⟨true,(b2 i).2 rfl⟩ c7).trans eg
  have e7:=en s (by rw [a1];simp only [Op.operands,Call.operands,Array.mem_append];exact .inr ms)
  have hR:=en x (by rw [a1];simp only [Op.operands,Call.operands,Array.mem_append];exact .inr hV)
  obtain ⟨Z,M⟩:=hQ (fun m b U=>ez m ⟨b,List.mem_append_right _ U⟩) bx hR
  rw [e6] at e7
  obtain ⟨a7,cap,b4,c3,hX,_,J⟩:=e7
  obtain ⟨cs,fr,e1,fv,ea,hW,b5⟩:=ig bx a7 b7 rfl
  have c0:=M.SJ
  have dy:=M.len
  have hG:(len+n)*P.cellsOf e=len*P.cellsOf e+n*P.cellsOf e:=Nat.add_mul _ _ _
  have hq:=aj.len b5
  rw [List.length_take,Array.length_toList,an.eZ] at hq
  by_cases c4:len+n≤cap
  ·-- in place
   have hY:(len+n)*P.cellsOf e≤cap*P.cellsOf e:=Nat.mul_le_mul_right _ c4
   have ec:∀ (w':World) (O:Array Value),(storeCells ((⟨(α i).1,b4,none⟩:Addr).add (len*P.cellsOf e)) Z).run P w= .ok () w'→w'.heap[(α i).1]? =some (.cells O e fr)→O.size=cs.size→O.toList.take c'.len=cs.toList.take (len*P.cellsOf e) ++ Z→(∀ k,k≠(α i).1→w'.heap[k]? =w.heap[k]?)→(∀ B,B≤(α i).1→bm B w w')→w'.heap.size=w.heap.size→(cap=0∨b4=0∧cap*P.cellsOf e≤(α i).2)→(len+n)*P.cellsOf e≤(α i).2→o.wpIn (W ro) 0 P a w K Q:=by
    intro w' O hF hK fh hL hM hN hP a6 h2
    obtain ⟨ch,c5⟩:=yu (w':=w') bx a7 (k1:= .row c' e .live) b7 rfl rfl hP hM hN (fun aE=> .inr ⟨O,fr,hK,by omega,ea,by omega,by
     rw [hL,eo]
     have gf:cs.toList.take (len*P.cellsOf e)=(cs.toList.take G.len).take (len*P.cellsOf e):=by rw [List.take_take,Nat.min_eq_left e3]
     rw [gf]
     exact aj.append (aj.take (aj.mono _ _ aE b5) _) (aj.mono _ _ aE M.rel)⟩)
    obtain ⟨bD,b1⟩:=Zx ch a7 e4 (c':=G) (cU _ _ _)
    have b6:a8 (a8 (a8 h i (some (.row c' e .live))) i (some (.row G e .dead))) H.length (some (.row c' e .live))=a8 (a8 h i (some (.row G e .dead))) H.length (some (.row c' e .live)):=by
     funext m
     unfold a8
     split
     ·rfl
     ·split <;> rfl
    rw [b6] at bD b1
    refine si fs (vx a1 ep ha fa (v:= .slice (some ⟨(α i).1,b4,none⟩) (len+n) cap) (w':=w') (fun ty=> ?_)) (eh _ _ w' _ (by rw [e0];exact bD) ?_ (by rw [e0];exact c5.trans b1) ?_)
    ·rw [c3]
     exact Q1 fc hi e5 (M.lenOf w) (by rw [← b3];exact M.cells w rfl) c4 (by rw [← b3];exact hF)
    ·rintro j (I | rfl)
     ·exact .inl I
     ·exact .inr ⟨Nat.le_refl _,by simp⟩
    ·refine ⟨.inr rfl,cap,b4,by rw [eV],c4,(fun h=>by cases h), ?_⟩
     rw [eV,Nat.zero_add]
     rcases a6 with a6 | a6
     ·exact .inl a6
     ·exact .inr a6
   rcases J with J | ⟨rfl,J⟩
   ·-- the slice has no room at all:nothing is appended to nothing
    have c6:len=0:=by omega
    have hx:n=0:=by omega
    subst c6 hx
    have hz:Z= []:=List.eq_nil_of_length_eq_zero (by rw [dy,Nat.zero_mul])
    subst hz
    have ho:c'.len=0:=by rw [ct,c0,Nat.zero_mul]
    exact ec w cs rfl e1 rfl (by rw [ho,Nat.zero_mul];rfl) (fun _ _=>rfl) (fun B _=>bm.refl B w) rfl (.inl J) (by rw [Nat.zero_mul];exact Nat.zero_le _)
   ·rw [Nat.zero_add] at J
    obtain ⟨w',O,gn,hc,eb,hd,hf,hg⟩:=yW (P:=P) (α i).1 (len*P.cellsOf e) e fr Z 0 w cs e1 (by omega) (by rw [fv];exact ea rfl) (QW hA M.rel)
    have hI:O.size=cs.size:=by
     have:=congrArg List.length eb
     simp only [Array.length_toList,List.length_append,List.length_take,List.length_drop] at this
     omega
    refine ec w' O (by rw [fH,Nat.zero_add];exact gn) hc hI ?_ hd hf hg (.inr ⟨rfl,J⟩) (by omega)
    rw [eb,Nat.add_zero]
    exact O5 _ _ _ (by rw [List.length_take,Array.length_toList,ct,c0,dy,Nat.min_eq_left (by omega)])
  ·-- a new array
   have ev:=grownCap_ge w (len+n) cap e
   have e2:((cs.toList.take G.len).take (len*P.cellsOf e)).length=len*P.cellsOf e:=by
    rw [List.length_take,List.length_take,Array.length_toList];omega
   have hr:∀ w2,w2.heap=w.heap→(Builtin.firstCells (P.cellsOf e) len (a.eval s)).run P w2= .ok ((cs.toList.take G.len).take (len*P.cellsOf e)).toArray w2:=by
    intro w2 fh
    rw [c3]
    by_cases c6:len=0
    ·subst c6
     rw [qO w2]
     simp
    ·rcases J with J | ⟨rfl,J⟩
     ·omega
     ·refine xP e2 (fun j y I=> ?_) w2 fh
      rw [List.getElem?_take] at I
      split at I
      ·rw [List.getElem?_take] at I
       split at I
       ·rw [Array.getElem?_toList] at I
        rw [fH,me e1,Nat.zero_add]
        exact I
       ·cases I
      ·cases I
   obtain ⟨ch,c5⟩:=nS bx (wO w)
   obtain ⟨bD,b1⟩:=Da ch e4 (o:= .cells (((cs.toList.take G.len).take (len*P.cellsOf e)).toArray ++ Z.toArray ++ Builtin.zeroCells z.cells (grownCap w (len+n) cap e - (len+n))) e) (fun ds=>by simp) (k:= .row c' e .live) rfl (sz:=grownCap w (len+n) cap e*P.cellsOf e) (fun D' α' B' w' aE hJ=>by
    have eN:eY D D' α α' (Own B0 D α h) B' w w':= ⟨aE.le,aE.same,fun b cs ty fr ab hh=>aE.row b cs ty fr ab hh⟩
    exact KK hJ e2 dy (by rw [ct,c0,hG]) hT ev (by rw [eo];exact aj.append (aj.take (aj.mono _ _ eN b5) _) (aj.mono _ _ eN M.rel)))
   have hs:i≠H.length:=by omega
   obtain ⟨ek,eu⟩:=L4 bD (i:=i) (.inl a7) (c':=G) (st:= .dead) (by rw [bM _ _ hs];exact b7) (.inl rfl)
   have b6:a8 (a8 h H.length (some (.row c' e .live))) i (some (.row G e .dead))=a8 (a8 h i (some (.row G e .dead))) H.length (some (.row c' e .live)):=by
    funext m
    unfold a8
    by_cases ab:m=i
    ·rw [if_pos ab,if_neg (by omega),if_pos ab]
    ·rw [if_neg ab,if_neg ab]
   rw [b6] at ek eu
   refine si fs (vx a1 ep ha fa (v:= .slice (some ⟨w.heap.size,0,none⟩) (len+n) (grownCap w (len+n) cap e)) (fun ty=> ?_)) (eh _ _ _ _ (by rw [e0];exact ek) ?_ (by rw [e0];exact (c5.trans b1).trans eu) ?_)
   ·have et:=hr w.drew rfl
    rw [c3] at et ⊢
    exact IX fc hi hU e5 (M.lenOf w) (by rw [← b3];exact M.cells _ rfl) (by rw [← b3];exact et) (by omega) hD (by rw [← hn];exact hB)
   ·rintro j (I | rfl)
    ·exact .inl I
    ·exact .inr ⟨Nat.le_refl _,by simp⟩
   ·exact ⟨.inr rfl,_,0,by rw [eV];rfl,ev,(fun h=>by cases h), .inr ⟨rfl,by rw [eV,Nat.zero_add];exact Nat.le_refl _⟩⟩
end
end Go.V
