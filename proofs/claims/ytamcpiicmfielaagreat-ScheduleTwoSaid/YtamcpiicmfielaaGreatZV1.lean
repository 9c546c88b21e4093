import Derived.RangeFuncRecord
import Derived.Below
import Derived.OrdersIn
import Derived.Laws.Cells
import Derived.Laws.Append
import Derived.Laws.MakeOwn
import Derived.KernelRfl
import Derived.ChangeKeysEq
import Derived.Laws.Slices
import Derived.Laws.Strings2
import Derived.Laws.StructEq
import Derived.Laws.Concat
import Derived.Laws.BytesString
import Derived.Lib.AppendZeros
set_option linter.unusedVariables false
set_option linter.unusedSimpArgs false
namespace Go.V
open Go Go.RowKit
def nB (P:Program) {α:Type} :Sem α→Option α
 | .pure a=>some a
 | .program k=>nB P (k P)
 | .mark _ k=>nB P k
 | _=>none
theorem acD (P:Program) {α:Type} (s:Sem α):∀ {a:α},nB P s=some a→∀ w,s.run P w= .ok a w:=by
 induction s with
 | pure a=>intro b h w;simp only [nB,Option.some.injEq] at h;subst h;rfl
 | program k G=>intro b h w;exact G P h w
 | mark m k G=>intro b h w;exact G h w
 | _=>intro b h;simp [nB] at h
inductive AV where
 | any
 | val (v:Value)
 | ptr (i off:Nat)
 | sl (full:Bool) (t:TypeId) (i off len:Nat)
 | lst (full:Bool) (t:TypeId) (n:Nat) (f:Nat→Nat→AV)
 | eptr (t:TypeId) (n:Nat) (f:Nat→Nat→AV) (j off:Nat)
 | agg (cs:List AV)
 | tup (vs:List AV)
 | clo (fn:Fn) (first captured:List AV)
 | yld (i:Nat)
 deriving Inhabited
def dR (P:Program) (t:TypeId):Bool:=match P.underlying t with | some (.struct _) | some (.array _ _)=>true | _=>false
def bo:Nat→Prop:=fun _=>False
mutual
def AV.Rel (P:Program) (α:Nat→Nat×Nat) (B:Nat→Prop) (w:World):AV→(Nat→Prop)→Value→Prop
 | .any,_,_=>True
 | .val v,_,x=>x=v
 | .ptr i off,D,x=>D i∧x= .pointer (some ⟨(α i).1,off,none⟩)
 | .sl I t i off len,D,x=>D i∧∃ cap o,x= .slice (some ⟨(α i).1,o,none⟩) len cap∧len≤cap∧(I=true→cap=len)∧(cap=0∨o=off∧off+cap*P.cellsOf t≤(α i).2)
 | .lst I t n f,_,x=>∃ A cap,x= .slice A n cap∧n≤cap∧(I=true→cap=n)∧(n=0∨∃ b o cs ty fr,A=some ⟨b,o,none⟩∧¬ B b∧w.heap[b]? =some (.cells cs ty fr)∧
   ∀ j k,j < n→k < P.cellsOf t→∃ y,cs[o+j*P.cellsOf t+k]? =some y∧(f j k).Rel P α B w bo y)
 | .eptr t n f j off,_,x=>j < n∧∃ b o cs ty fr,x= .pointer (some ⟨b,o+j*P.cellsOf t+off,none⟩)∧¬ B b∧w.heap[b]? =some (.cells cs ty fr)∧
   ∀ j k,j < n→k < P.cellsOf t→∃ y,cs[o+j*P.cellsOf t+k]? =some y∧(f j k).Rel P α B w bo y
 | .agg cs,D,x=>∃ G:Array Value,x= .agg G∧aj P α B w cs D G.toList
 | .tup vs,D,x=>∃ G:Array Value,x= .tuple G∧aj P α B w vs D G.toList
 | .clo O M cap,D,x=>∃ J G:Array Value,x= .func O J G∧aj P α B w M D J.toList∧aj P α B w cap D G.toList
 | .yld i,D,x=>D i∧x= .func (.yield (α i).1) #[] #[]
def aj (P:Program) (α:Nat→Nat×Nat) (B:Nat→Prop) (w:World):List AV→(Nat→Prop)→List Value→Prop
 | [],_,G=>G= []
 | v :: vs,D,G=>∃ y zs,G=y :: zs∧v.Rel P α B w D y∧aj P α B w vs D zs
end
section
variable {P : Program} {D D' : Nat → Prop} {α α' : Nat → Nat × Nat} {B B' : Nat → Prop} {w w' : World}
structure eZ (D D':Nat→Prop) (α α':Nat→Nat×Nat) (B B':Nat→Prop) (w w':World):Prop where
 le:∀ i,D i→D' i
 same:∀ i,D i→α' i=α i
 row:∀ b cs ty fr,w.heap[b]? =some (.cells cs ty fr)→¬ B b→¬ B' b∧w'.heap[b]? =some (.cells cs ty fr)
theorem eZ.no (h:eZ D D' α α' B B' w w'):eZ bo bo α α' B B' w w':= ⟨fun _ h=>h,fun _ h=>h.elim,h.row⟩
mutual
theorem AV.Rel.mono:∀ (v:AV) (x:Value) {D D':Nat→Prop} {α α':Nat→Nat×Nat} {B B':Nat→Prop} {w w':World},eZ D D' α α' B B' w w'→v.Rel P α B w D x→v.Rel P α' B' w' D' x
 | .any,x,_,_,_,_,_,_,_,_,h,k=>trivial
 | .val v,x,_,_,_,_,_,_,_,_,h,k=>k
 | .ptr i off,x,_,_,_,_,_,_,_,_,h,k=> ⟨h.le i k.1,by rw [h.same i k.1];exact k.2⟩
 | .sl b0 t i off len,x,_,_,_,_,_,_,_,_,h,k=> ⟨h.le i k.1,by rw [h.same i k.1];exact k.2⟩
 | .lst b0 t n f,x,_,_,_,_,_,_,_,_,h,k=>by
  obtain ⟨A,cap,I,J,M,U⟩:=k
  refine ⟨A,cap,I,J,M, ?_⟩
  rcases U with U | ⟨b,o,cs,ty,fr,Z,ab,aE,a1⟩
  ·exact .inl U
  ·have:=h.row b cs ty fr aE ab
   refine .inr ⟨b,o,cs,ty,fr,Z,this.1,this.2,fun j k a7 bx=> ?_⟩
   obtain ⟨y,a6,O⟩:=a1 j k a7 bx
   exact ⟨y,a6,AV.Rel.mono (f j k) y h.no O⟩
 | .eptr t n f j off,x,_,_,_,_,_,_,_,_,h,k=>by
  obtain ⟨b1,b,o,cs,ty,fr,Z,ab,aE,a1⟩:=k
  have:=h.row b cs ty fr aE ab
  refine ⟨b1,b,o,cs,ty,fr,Z,this.1,this.2,fun j k a7 bx=> ?_⟩
  obtain ⟨y,a6,O⟩:=a1 j k a7 bx
  exact ⟨y,a6,AV.Rel.mono (f j k) y h.no O⟩
 | .agg cs,x,_,_,_,_,_,_,_,_,h,k=>by
  obtain ⟨G,I,J⟩:=k
  exact ⟨G,I,aj.mono cs _ h J⟩
 | .tup cs,x,_,_,_,_,_,_,_,_,h,k=>by
  obtain ⟨G,I,J⟩:=k
  exact ⟨G,I,aj.mono cs _ h J⟩
 | .clo b3 bD cap,x,_,_,_,_,_,_,_,_,h,k=>by
  obtain ⟨b2,G,I,J,M⟩:=k
  exact ⟨b2,G,I,aj.mono bD _ h J,aj.mono cap _ h M⟩
 | .yld i,x,_,_,_,_,_,_,_,_,h,k=> ⟨h.le i k.1,by rw [h.same i k.1];exact k.2⟩
theorem aj.mono:∀ (vs:List AV) (G:List Value) {D D':Nat→Prop} {α α':Nat→Nat×Nat} {B B':Nat→Prop} {w w':World},eZ D D' α α' B B' w w'→aj P α B w vs D G→aj P α' B' w' vs D' G
 | [],G,_,_,_,_,_,_,_,_,h,k=>k
 | v :: vs,G,_,_,_,_,_,_,_,_,h,k=>by
  obtain ⟨y,zs,I,J,M⟩:=k
  exact ⟨y,zs,I,AV.Rel.mono v y h J,aj.mono vs zs h M⟩
end
theorem aj.get:∀ {vs:List AV} {G:List Value},aj P α B w vs D G→∀ {i:Nat} {v:AV},vs[i]? =some v→∃ y,G[i]? =some y∧v.Rel P α B w D y
 | [],G,k,i,v,h=>by simp at h
 | u :: vs,G,k,i,v,h=>by
  obtain ⟨y,zs,rfl,J,I⟩:=k
  cases i with
  | zero=>grind
  | succ i=>rw [List.getElem?_cons_succ] at h;rw [List.getElem?_cons_succ];exact aj.get I h
theorem aj.len:∀ {vs:List AV} {G:List Value},aj P α B w vs D G→G.length=vs.length
 | [],G,k=>by rw [show G= [] from k];rfl
 | u :: vs,G,k=>by
  obtain ⟨y,zs,rfl,J,I⟩:=k
  simp [aj.len I]
theorem aj.set:∀ {vs:List AV} {G:List Value},aj P α B w vs D G→∀ (i:Nat) {v:AV} {y:Value},v.Rel P α B w D y→aj P α B w (vs.set i v) D (G.set i y)
 | [],G,k,i,v,y,h=>by rw [show G= [] from k];rfl
 | u :: vs,G,k,i,v,y,h=>by
  obtain ⟨z,zs,rfl,J,I⟩:=k
  cases i with
  | zero=>exact ⟨y,zs,rfl,h,I⟩
  | succ i=>exact ⟨z,zs.set i y,rfl,J,aj.set I i h⟩
theorem aj.vals:∀ (l:List Value),aj P α B w (l.map .val) D l
 | []=>rfl
 | v :: l=> ⟨v,l,rfl,rfl,aj.vals l⟩
theorem aj.y7:∀ {l G:List Value},aj P α B w (l.map .val) D G→G=l
 | [],G,k=>k
 | v :: l,G,k=>by
  obtain ⟨z,zs,rfl,I,J⟩:=k
  rw [show z=v from I,aj.y7 J]
theorem aj.append:∀ {vs us:List AV} {G zs:List Value},aj P α B w vs D G→aj P α B w us D zs→aj P α B w (vs ++ us) D (G ++ zs)
 | [],us,G,zs,k,h=>by rw [show G= [] from k];exact h
 | v :: vs,us,G,zs,k,h=>by
  obtain ⟨y,M,rfl,I,J⟩:=k
  exact ⟨y,M ++ zs,rfl,I,aj.append J h⟩
theorem aj.take:∀ {vs:List AV} {G:List Value},aj P α B w vs D G→∀ k,aj P α B w (vs.take k) D (G.take k)
 | [],G,k,j=>by rw [show G= [] from k];simp [aj]
 | v :: vs,G,k,j=>by
  obtain ⟨y,zs,rfl,I,J⟩:=k
  cases j with
  | zero=>rfl
  | succ j=>exact ⟨y,zs.take j,rfl,I,aj.take J j⟩
theorem aj.drop:∀ {vs:List AV} {G:List Value},aj P α B w vs D G→∀ k,aj P α B w (vs.drop k) D (G.drop k)
 | [],G,k,j=>by rw [show G= [] from k];simp [aj]
 | v :: vs,G,k,j=>by
  obtain ⟨y,zs,rfl,J,I⟩:=k
  cases j with
  | zero=>exact ⟨y,zs,rfl,J,I⟩
  | succ j=>exact aj.drop I j
theorem aj.oC:∀ {vs:List AV} {G:List Value},G.length=vs.length→(∀ (i:Nat) (v:AV),vs[i]? =some v→∃ y,G[i]? =some y∧v.Rel P α B w D y)→aj P α B w vs D G
 | [],G,I,h=>List.eq_nil_of_length_eq_zero I
 | u :: vs, [],I,h=>by simp at I
 | u :: vs,y :: G,I,h=>by
  obtain ⟨U,J,M⟩:=h 0 u rfl
  simp only [List.getElem?_cons_zero,Option.some.injEq] at J
  subst J
  exact ⟨y,G,rfl,M,aj.oC (by grind) (fun i v O=>by have:=h (i+1) v (by grind);grind)⟩
end
def toAV1:Value→AV
 | .agg cs=> .agg (cs.toList.map .val)
 | v=> .val v
def toAV:Value→AV
 | .tuple vs=> .tup (vs.toList.map toAV1)
 | v=>toAV1 v
def isVal:AV→Bool
 | .val _=>true
 | _=>false
def kZ:AV→Value
 | .val v=>v
 | _=>undef
def toVal:AV→Option Value
 | .val v=>some v
 | .agg cs=>bif cs.all isVal then some (.agg (cs.map kZ).toArray) else none
 | _=>none
section
variable {P : Program} {D : Nat → Prop} {α : Nat → Nat × Nat} {B : Nat → Prop} {w : World}
theorem toAV1_rel (v:Value):(toAV1 v).Rel P α B w D v:=by
 cases v with
 | agg cs=>exact ⟨cs,rfl,aj.vals _⟩
 | _=>rfl
theorem toAV_rel (v:Value):(toAV v).Rel P α B w D v:=by
 cases v with
 | agg cs=>exact ⟨cs,rfl,aj.vals _⟩
 | tuple vs=>
  refine ⟨vs,rfl, ?_⟩
  generalize vs.toList=l
  induction l with
  | nil=>rfl
  | cons v l G=>exact ⟨v,l,rfl,toAV1_rel v,G⟩
 | _=>rfl
theorem aj.xt:∀ {cs:List AV} {G:List Value},cs.all isVal=true→aj P α B w cs D G→G=cs.map kZ
 | [],G,h,k=>k
 | c :: cs,G,h,k=>by
  obtain ⟨y,zs,rfl,I,J⟩:=k
  rw [List.all_cons,Bool.and_eq_true] at h
  rw [List.map_cons,aj.xt h.2 J]
  cases c with
  | val v=>rw [show y=v from I];rfl
  | _=>simp [isVal] at h
theorem toVal_rel {u:AV} {x v:Value} (h:toVal u=some v) (k:u.Rel P α B w D x):x=v:=by
 cases u with
 | val v=>cases h;exact k
 | agg cs=>
  simp only [toVal] at h
  cases G:cs.all isVal with
  | false=>grind
  | true=>
   rw [G] at h
   cases h
   obtain ⟨J,rfl,I⟩:=k
   rw [← aj.xt G I]
 | _=>cases h
end
inductive ao where
 | cells (l:List AV)
 | ints (k:IntKind) (zs:List Int)
 | vals (vs:List Value)
 deriving Inhabited
def ao.a8:ao→List AV
 | .cells l=>l
 | .ints k zs=>zs.map fun z=> .val (.int k z)
 | .vals vs=>vs.map .val
def ao.len:ao→Nat
 | .cells l=>l.length
 | .ints _ zs=>zs.length
 | .vals vs=>vs.length
theorem ao.e8 (c:ao):c.a8.length=c.len:=by cases c <;> simp [ao.a8,ao.len]
inductive tb where
 | live | froz | dead
 deriving DecidableEq,Inhabited
inductive Jump where
 | ret
 | exit (id:Nat)
def Jump.code:Jump→Code
 | .ret=> .ret
 | .exit id=> .exit id
structure Rec where
 T:List AV
 params:Array Tmp
 g:FuncId
 path:List Bool
 st:LoopState
 da:Option Jump
inductive bQ where
 | row (c:ao) (ty:TypeId) (st:tb)
 | loop (r:Rec)
def bQ.isLive:bQ→Bool
 | .row _ _ .live=>true
 | .loop _=>true
 | _=>false
def bQ.jc:bQ→Bool
 | .row _ _ .froz=>true
 | _=>false
abbrev Hp:=List bQ
abbrev Hf:=Nat→Option bQ
def child:Bool→Code→Option Code
 | false, .seq a _=>some a
 | true, .seq _ b=>some b
 | false, .cond _ a _=>some a
 | true, .cond _ _ b=>some b
 | false, .block _ a=>some a
 | false, .loop a=>some a
 | false, .scope a=>some a
 | false, .rangeFunc _ _ a _=>some a
 | true, .rangeFunc _ _ _ b=>some b
 | _,_=>none
def aH (P:Program) (g:FuncId):List Bool→Option Code
 | []=>(P.funcs[g]?).bind (·.body)
 | b :: p=>(aH P g p).bind (child b)
def aP (D:Nat→Prop) (α:Nat→Nat×Nat) (h:Hf) (b:Nat):Prop:=∃ i k,D i∧h i=some k∧k.isLive=true∧(α i).1=b
def Own (B0 D:Nat→Prop) (α:Nat→Nat×Nat) (h:Hf) (b:Nat):Prop:=B0 b∨aP D α h b
def cP (P:Program) (α:Nat→Nat×Nat) (B:Nat→Prop) (w:World) (D:Nat→Prop) (k:bQ) (a:Nat×Nat):Prop:=
 match k with
 | .row c ty st=>st= .dead∨∃ cs fr,w.heap[a.1]? =some (.cells cs ty fr)∧cs.size=a.2∧(st= .live→∀ i,i < a.2→¬ (fr.1≤i∧i < fr.2))∧c.len≤a.2∧aj P α B w c.a8 D (cs.toList.take c.len)
 | .loop r=>∃ L,w.heap[a.1]? =some (.loop L)∧L.state=r.st∧L.pending=r.da.map Jump.code∧L.params=r.params∧(∃ f ps,aH P r.g r.path=some (.rangeFunc f ps L.assign L.body))∧aj P α B w r.T D L.tmps.toList
structure bw (B:Nat) (w w':World):Prop extends Below B w w' where
 dr:w.drawn≤w'.drawn
theorem bw.refl (B:Nat) (w:World):bw B w w:= ⟨Below.refl B w,Nat.le_refl _⟩
theorem bw.trans {B:Nat} {a b c:World} (h:bw B a b) (k:bw B b c):bw B a c:= ⟨h.toBelow.trans k.toBelow,Nat.le_trans h.dr k.dr⟩
theorem bw.mono {B B':Nat} {w w':World} (h:bw B w w') (G:B'≤B):bw B' w w':= ⟨h.toBelow.mono G,h.dr⟩
theorem bw.drew {B:Nat} {a w:World} (h:bw B a w):bw B a w.drew:= ⟨h.toBelow.drew,Nat.le_trans h.dr (Nat.le_succ _)⟩
theorem bw.alloc {B:Nat} {a w:World} (h:bw B a w) (G:B≤w.heap.size) (o:Obj):bw B a (w.alloc o):= ⟨h.toBelow.alloc G o,h.dr⟩
theorem bw.setCell {B:Nat} {a w:World} (h:bw B a w) {p:Addr} (G:B≤p.block) (u:Value):bw B a (w.setCell p u):= ⟨h.toBelow.setCell G u,h.dr⟩
structure Ok (P:Program) (B0:Nat→Prop) (w0:World) (D:Nat→Prop) (α:Nat→Nat×Nat) (h:Hf) (w:World):Prop where
 lt:∀ i,D i→∃ k,h i=some k
 below:bw w0.heap.size w0 w
 cO:∀ b,B0 b→b < w.heap.size∧∀ ds,w.heap[b]?≠some (.deferred ds)
 sep:∀ b,B0 b→¬ aP D α h b
 fresh:∀ i,D i→w0.heap.size≤(α i).1∧(α i).1 < w.heap.size
 inj:∀ i j k l,D i→D j→h i=some k→h j=some l→k.isLive=true→l.isLive=true→(α i).1=(α j).1→i=j
 dc:∀ i k,D i→h i=some k→k.jc=true→¬ Own B0 D α h (α i).1
 cM:∀ i k,D i→h i=some k→cP P α (Own B0 D α h) w D k (α i)
structure bG (D D':Nat→Prop) (α α':Nat→Nat×Nat) (C C':Nat→Prop) (w w':World):Prop where
 le:∀ i,D i→D' i
 same:∀ i,D i→α' i=α i
 block:∀ b o,w.heap[b]? =some o→¬ C b→¬ C' b∧w'.heap[b]? =some o
section
variable {P : Program} {D D' D'' : Nat → Prop} {α α' α'' : Nat → Nat × Nat} {C C' C'' : Nat → Prop} {h h' : Hf} {w w' w'' : World}
theorem bG.keeps (B0:Nat→Prop) (k:bG D D' α α' (aP D α h) (aP D' α' h') w w'):eZ D D' α α' (Own B0 D α h) (Own B0 D' α' h') w w':=
 ⟨k.le,k.same,fun b cs ty fr J G=>have I:=k.block b _ J (fun h=>G (.inr h)); ⟨fun h=>h.elim (fun h=>G (.inl h)) I.1,I.2⟩⟩
theorem bG.refl (D:Nat→Prop) (α:Nat→Nat×Nat) (C:Nat→Prop) (w:World):bG D D α α C C w w:= ⟨fun _ h=>h,fun _ _=>rfl,fun _ _ h k=> ⟨k,h⟩⟩
theorem bG.trans (h:bG D D' α α' C C' w w') (k:bG D' D'' α' α'' C' C'' w' w''):bG D D'' α α'' C C'' w w'':=
 ⟨fun i hi=>k.le i (h.le i hi),fun i hi=>(k.same i (h.le i hi)).trans (h.same i hi),fun b o I J=>have G:=h.block b o I J;k.block b o G.2 G.1⟩
end
structure Fr where
 n:Nat
 D:Nat→Prop
 α:Nat→Nat×Nat
 C:Nat→Prop
 w:World
def Marks (n:Nat) (w:World) (ds:List Deferred):Prop:=n≤w.heap.size∧∃ G:List Nat,ds=G.map (fun r=> { target:= .collected r,args:= #[] })∧G.Nodup∧∀ r ∈ G,n≤r∧w.heap[r]? =some (.deferred (some []))
def cJ (P:Program) (B0:Nat→Prop) (w0:World) (F:Fr) (T:List AV) (h:Hf) (a:Act) (w:World):Prop:=
 Marks F.w.heap.size w a.defers∧∃ D α,Ok P B0 w0 D α h w∧aj P α (Own B0 D α h) w T D a.tmps.toList∧bG F.D D F.α α F.C (aP D α h) F.w w∧∀ i,D i→i < F.n→F.D i
section
variable {P : Program} {B0 : Nat → Prop} {w0 : World} {D D' : Nat → Prop} {α α' : Nat → Nat × Nat} {h h' : Hf} {w w' : World}
theorem El (O:Ok P B0 w0 D α h w) {r:Nat} {ds:Option (List Deferred)} (Z:w.heap[r]? =some (.deferred ds)):¬ aP D α h r:=by
 rintro ⟨i,k,G,I,J,rfl⟩
 have:=O.cM i k G I
 cases k with
 | row c ty st=>
  rcases this with rfl | ⟨cs,fr,M,_⟩
  ·cases J
  grind
 | loop L=>obtain ⟨U,M,_⟩:=this;grind
theorem Mj (U:Ok P B0 w0 D α h w) (J:Ok P B0 w0 D' α' h' w') (G:bG D D' α α' (aP D α h) (aP D' α' h') w w'):w.heap.size≤w'.heap.size:=by
 refine Nat.le_of_not_lt fun M=> ?_
 by_cases I:aP D α h w'.heap.size
 ·obtain ⟨i,k,hi,_,_,e⟩:=I
  have:=(J.fresh i (G.le i hi)).2
  rw [G.same i hi] at this
  omega
 ·have O:=(G.block _ _ (Array.getElem?_eq_getElem M) I).2
  grind
theorem Marks.mono {n:Nat} {ds:List Deferred} (ab:Marks n w ds) (J:Ok P B0 w0 D α h w) (aE:Ok P B0 w0 D' α' h' w') (M:bG D D' α α' (aP D α h) (aP D' α' h') w w'):Marks n w' ds:=by
 obtain ⟨O,a1,U,Z,G⟩:=ab
 exact ⟨Nat.le_trans O (Mj J aE M),a1,U,Z,fun r I=> ⟨(G r I).1,(M.block r _ (G r I).2 (El J (G r I).2)).2⟩⟩
end
theorem ahf {P : Program} {w : World} {tp ti ty e : TypeId} {b : Nat} {kn : IntKind} {z : Int} {n : Nat} {s : ByteArray} (Z : P.underlying tp = some (.pointer e)) (ab : ¬ z < 0) (I : z ≤ 9223372036854775807) (aE : z ≠ 0) (U : w.shape? b = some (e, n)) (G : P.cellsOf e = 1) (O : liesAt P P.depth e n 0 e z.toNat = true) (M : (loadBytes ⟨b, 0, none⟩ .empty z.toNat).run P w = .ok s w) :
    (Builtin.unsafeString_ #[tp, ti] ty #[.pointer (some ⟨b, 0, none⟩), .int kn z]).run P w = .ok (.string s) (w.freeze ⟨b, 0, none⟩ z.toNat) := by
  have J : Builtin.unsafeString_ #[tp, ti] ty #[.pointer (some ⟨b, 0, none⟩), .int kn z] =
                    (do
                      let n ← asInt (.int kn z)
                      if n < 0 then runtimePanic (.error "unsafe.String: len out of range")
                      if n > IntKind.i64.max then unsupported (.unsafePointer "String: a length above the largest int")
                      if n = 0 then pure (.string .empty)
                      else if ← variablesAt ⟨b, 0, none⟩ (← elemOf tp) n.toNat then do
                        let s ← loadBytes ⟨b, 0, none⟩ .empty n.toNat
                        freeze ⟨b, 0, none⟩ n.toNat
                        pure (.string s)
                      else unsupported (.unsafePointer "String: not so many bytes at ptr")) := rfl
  rw [J]
  have a1 : ¬ z > IntKind.i64.max := by have : IntKind.i64.max = 9223372036854775807 := rfl; omega
  simp [asInt, asIntOf, ab, aE, elemOf, run_underlying Z, variablesAt, U, G, O, M, freeze, Sem.run, Result.andThen]
  try exact I
end Go.V
noncomputable section
namespace Go.V
open Go Go.RowKit
def MR:Int→Int→Bool
 | .ofNat m, .ofNat n=>Nat.ble m n
 | .negSucc _, .ofNat _=>true
 | .ofNat _, .negSucc _=>false
 | .negSucc m, .negSucc n=>Nat.ble n m
theorem ZL (a b:Int):MR a b=true↔a≤b:=by
 cases a with
 | ofNat m=>cases b with
  | ofNat n=>show Nat.ble m n=true↔(m:Int)≤(n:Int);simp_all
  | negSucc n=>show false=true↔(m:Int)≤Int.negSucc n;grind
 | negSucc m=>cases b with
  | ofNat n=>show true=true↔Int.negSucc m≤(n:Int);grind
  | negSucc n=>show Nat.ble n m=true↔Int.negSucc m≤Int.negSucc n;rw [Nat.ble_eq];omega
def Ng:Int→Int→Bool
 | .ofNat m, .ofNat n=>Nat.ble (m+1) n
 | .negSucc _, .ofNat _=>true
 | .ofNat _, .negSucc _=>false
 | .negSucc m, .negSucc n=>Nat.ble (n+1) m
theorem abg (a b:Int):Ng a b=true↔a < b:=by
 cases a with
 | ofNat m=>cases b with
  | ofNat n=>show Nat.ble (m+1) n=true↔(m:Int) < (n:Int);rw [Nat.ble_eq];omega
  | negSucc n=>show false=true↔(m:Int) < Int.negSucc n;grind
 | negSucc m=>cases b with
  | ofNat n=>show true=true↔Int.negSucc m < (n:Int);grind
  | negSucc n=>show Nat.ble (n+1) m=true↔Int.negSucc m < Int.negSucc n;rw [Nat.ble_eq];omega
instance (priority:=2000) ahC (a b:Int):Decidable (a≤b):=decidable_of_bool (MR a b) (ZL a b)
instance (priority:=2000) ahD (a b:Int):Decidable (a < b):=decidable_of_bool (Ng a b) (abg a b)
def ai (k:IntKind) (z:Int):Bool:=decide (k.min≤z)&&decide (z≤k.max)
def aG (a b:ByteArray):Bool:=a.data.toList==b.data.toList
def strLt (a b:ByteArray):Bool:=Op.bytesLess a.data.toList b.data.toList
def sL (a b:ByteArray):ByteArray:= ⟨⟨a.data.toList ++ b.data.toList⟩⟩
def eT (s:ByteArray) (l h:Nat):ByteArray:= ⟨⟨(s.data.toList.drop l).take (h - l)⟩⟩
def aR (s:ByteArray) (i:Nat):Int:=((s.data.toList.getD i 0).toNat:Int)
def dw (s:ByteArray):List Int:=s.data.toList.map fun b=>(b.toNat:Int)
def ofBytes (zs:List Int):ByteArray:= ⟨⟨zs.map fun z=>UInt8.ofNat z.toNat⟩⟩
def cm (G:BinOp) (k:IntKind) (x y:Int):Int:=
 k.wrap ((match G with
  | .and=>BitVec.ofInt k.bits x &&& BitVec.ofInt k.bits y
  | .or=>BitVec.ofInt k.bits x ||| BitVec.ofInt k.bits y
  | .xor=>BitVec.ofInt k.bits x ^^^ BitVec.ofInt k.bits y
  | _=>BitVec.ofInt k.bits x &&& ~~~BitVec.ofInt k.bits y).toNat:Int)
def intKind (P:Program) (t:TypeId):Option IntKind:=match P.underlying t with | some (.int k)=>some k | _=>none
def kU (P:Program) (t:TypeId):Option TypeId:=match P.underlying t with | some (.slice e)=>some e | _=>none
section
variable {R : Type}
def ao.get (c:ao) (o:Nat) (k:AV→Option R):Option R:=
 match c with
 | .cells l=>match l[o]? with | some v=>k v | none=>none
 | .ints G zs=>bif decide (o < zs.length) then k (.val (.int G (zs.getD o 0))) else none
 | .vals vs=>bif decide (o < vs.length) then k (.val (vs.getD o undef)) else none
def ao.DC (c:ao):Nat→Nat→(List AV→Option R)→Option R
 | 0,_,k=>k []
 | n+1,o,k=>c.get o fun v=>c.DC n (o+1) fun vs=>k (v :: vs)
def bB:AV→Bool
 | .val v=>v.oneCell'
 | .agg _=>false
 | .tup _=>false
 | .any=>false
 | _=>true
def ao.put (c:ao) (o:Nat) (l:List AV) (k:ao→Option R):Option R:=
 bif l.all bB then
  match c with
  | .cells cO=>
   bif decide (o+l.length≤cO.length) then
    match l with
    | [v]=>k (.cells (cO.set o v))
    | _=>k (.cells (cO.take o ++ l ++ cO.drop (o+l.length)))
   else none
  | .ints G zs=>
   match l with
   | [.val (.int I z)]=>bif decide (G=I) then bif decide (o < zs.length) then k (.ints G (zs.set o z)) else none else none
   | _=>none
  | .vals vs=>
   match l with
   | [.val v]=>bif decide (o < vs.length) then k (.vals (vs.set o v)) else none
   | l=>bif l.all isVal&&decide (o+l.length≤vs.length) then k (.vals (vs.take o ++ l.map kZ ++ vs.drop (o+l.length))) else none
 else none
end
def ao.sub (c:ao) (o m:Nat):ao:=
 match c with
 | .cells l=> .cells ((l.drop o).take m)
 | .ints k zs=> .ints k ((zs.drop o).take m)
 | .vals vs=> .vals ((vs.drop o).take m)
def C3 (k:IntKind):AV→Option Int
 | .val (.int G z)=>bif decide (G=k) then some z else none
 | _=>none
def mP (k:IntKind):List AV→Option (List Int)
 | []=>some []
 | v :: l=>match C3 k v with
  | some z=>match mP k l with | some zs=>some (z :: zs) | none=>none
  | none=>none
def ao.uB (k:IntKind):ao→Option (List Int)
 | .cells l=>mP k l
 | .ints G zs=>bif decide (G=k) then some zs else none
 | .vals vs=>mP k (vs.map .val)
def ao.app (J:Option IntKind) (a:ao) (n:Nat) (b:ao):Option ao:=
 match J with
 | some k=>match a.uB k with
  | some I=>match b.uB k with | some G=>some (.ints k (I.take n ++ G)) | none=>none
  | none=>none
 | none=>match a,b with
  | .vals I, .vals G=>some (.vals (I.take n ++ G))
  | .cells [], .vals G=>some (.vals G)
  | .vals I, .cells l=>bif l.all isVal then some (.vals (I.take n ++ l.map kZ)) else none
  | .cells l, .vals G=>bif l.all isVal then some (.vals ((l.map kZ).take n ++ G)) else some (.cells ((ao.cells l).a8.take n ++ (ao.vals G).a8))
  | a,b=>some (.cells (a.a8.take n ++ b.a8))
def tF:AV→Option (List AV)
 | .val v=>some (v.cells.toList.map .val)
 | .agg cs=>some cs
 | .tup _=>none
 | .any=>none
 | v=>some [v]
def gS:Value→AV:=toAV1
def al (T:List AV):Nat→AV:=List.rec (motive:=fun _=>Nat→AV) (fun _=> .any) (fun a _ G n=>Nat.rec (motive:=fun _=>AV) a (fun m _=>G m) n) T
def Ea (T:List AV):Nat→AV→List AV:=List.rec (motive:=fun _=>Nat→AV→List AV) (fun _ _=> []) (fun a l G n v=>Nat.rec (motive:=fun _=>List AV) (v :: l) (fun m _=>a :: G m v) n) T
theorem yR:∀ (T:List AV) (t:Nat),al T t=(T[t]?).getD .any
 | [],t=>rfl
 | a :: l,0=>rfl
 | a :: l,t+1=>by rw [List.getElem?_cons_succ];exact yR l t
theorem Eb:∀ (T:List AV) (t:Nat) (v:AV),Ea T t v=T.set t v
 | [],t,v=>rfl
 | a :: l,0,v=>rfl
 | a :: l,t+1,v=>by rw [List.set_cons_succ,← Eb l t v];rfl
def aD (T:List AV):Operand→AV
 | .tmp t=>al T t
 | .const v=>gS v
 | .global g=> .val (.pointer (some ⟨g,0,none⟩))
 | .func f=> .val (.func (.func f) #[] #[])
def rowOf (H:Hp) (i:Nat):Option (ao×TypeId×tb):=match H[i]? with | some (.row c ty st)=>some (c,ty,st) | _=>none
section
variable {R : Type} (P : Program)
def pV (H:Hp) (t:TypeId) (p:AV) (k:AV→Option R):Option R:=
 match p with
 | .ptr i off=>
  match H[i]? with
  | some (.row c _ st)=>bif st== .dead then none else
   bif dR P t then c.DC (P.cellsOf t) off fun vs=>k (.agg vs)
   else bif (P.underlying t).isSome then c.get off k else none
  | _=>none
 | .eptr G n f j off=>
  bif dR P t then bif decide (off+P.cellsOf t≤P.cellsOf G) then k (.agg ((List.range (P.cellsOf t)).map fun q=>f j (off+q))) else none
  else bif (P.underlying t).isSome then bif decide (off < P.cellsOf G) then k (f j off) else none else none
 | _=>none
def Gl (lo:Nat) (H:Hp) (t:TypeId) (p v:AV) (k:Hp→Option R):Option R:=
 match p with
 | .ptr i off=>bif decide (i < lo) then none else
  match H[i]?,tF v with
  | some (.row c ty .live),some l=>bif (l.length==P.cellsOf t&&(P.info? t).isSome) then c.put off l fun c'=>k (H.set i (.row c' ty .live)) else none
  | _,_=>none
 | _=>none
def LV (s f:Nat) (v:AV):Option AV:=
 match P.underlying s with
 | some (.struct G)=>
  match G[f]? with
  | some fd=>
   bif P.cellsOf fd.type==0 then none else
   match v with
   | .ptr i off=>some (.ptr i (off+fd.offset))
   | .eptr t n g j off=>some (.eptr t n g j (off+fd.offset))
   | _=>none
  | none=>none
 | _=>none
def uV (t:TypeId) (cs:List AV) (off:Nat) (k:AV→Option R):Option R:=
 bif dR P t then k (.agg ((cs.drop off).take (P.cellsOf t)))
 else bif (P.underlying t).isSome then match cs[off]? with | some v=>k v | none=>none else none
def Ds (s f:Nat) (v:AV) (k:AV→Option R):Option R:=
 match P.underlying s,v with
 | some (.struct G), .agg cs=>match G[f]? with
  | some fd=>uV P fd.type cs fd.offset k
  | none=>none
 | _,_=>none
def ph (k:IntKind) (z:Int) (K:AV→Option R):Option R:=
 bif k.signed then bif ai k z then K (.val (.int k z)) else none else K (.val (.int k (k.wrap z)))
def DN (G:BinOp) (k:IntKind) (x y:Int) (K:AV→Option R):Option R:=
 match G with
 | .add=>ph k (x+y) K
 | .sub=>ph k (x - y) K
 | .mul=>ph k (x*y) K
 | .quo=>bif decide (y=0) then none else ph k (x.tdiv y) K
 | .rem=>bif decide (y=0) then none else K (.val (.int k (x.tmod y)))
 | .and=>K (.val (.int k (cm .and k x y)))
 | .or=>K (.val (.int k (cm .or k x y)))
 | .xor=>K (.val (.int k (cm .xor k x y)))
 | .andNot=>K (.val (.int k (cm .andNot k x y)))
 | .eql=>K (.val (.bool (decide (x=y))))
 | .neq=>K (.val (.bool (!decide (x=y))))
 | .lss=>K (.val (.bool (decide (x < y))))
 | .leq=>K (.val (.bool (decide (x≤y))))
 | .gtr=>K (.val (.bool (decide (y < x))))
 | .geq=>K (.val (.bool (decide (y≤x))))
 | _=>none
def z7 (G:BinOp) (k:IntKind) (x y:Int) (K:AV→Option R):Option R:=
 bif decide (y < 0) then none else
 match G with
 | .shl=>ph k (x*2 ^ (min y.toNat k.bits)) K
 | .shr=>K (.val (.int k (x.fdiv (2 ^ (min y.toNat k.bits)))))
 | _=>none
def Gn (G:BinOp) (x y:ByteArray) (K:AV→Option R):Option R:=
 match G with
 | .add=>bif decide (x.size+y.size≤9223372036854775807) then K (.val (.string (sL x y))) else none
 | .eql=>K (.val (.bool (aG x y)))
 | .neq=>K (.val (.bool (!aG x y)))
 | .lss=>K (.val (.bool (strLt x y)))
 | .leq=>K (.val (.bool (strLt x y ||aG x y)))
 | .gtr=>K (.val (.bool (!(strLt x y ||aG x y))))
 | .geq=>K (.val (.bool (!strLt x y)))
 | _=>none
def r5 (t:TypeId) (G:List Value) (off:Nat):Option Value:=bif dR P t then some (.agg ((G.drop off).take (P.cellsOf t)).toArray) else bif (P.underlying t).isSome then G[off]? else none
def pE (E:TypeId→Value→Value→Option Bool) (G I:List Value):List Field→Option Bool
 | []=>some true
 | f :: J => bif f.name == "_" then pE E G I J else
  match r5 P f.type G f.offset,r5 P f.type I f.offset with
  | some a,some b=>match E f.type a b with
   | some q=>match pE E G I J with
    | some q'=>some (q&&q')
    | none=>none
   | none=>none
  | _,_=>none
def jJ:Nat→TypeId→Value→Value→Option Bool
 | 0,_,_,_=>none
 | d+1,t,x,y=>
  match P.underlying t,x,y with
  | some .bool, .bool a, .bool b=>some (a==b)
  | some (.int _), .int k a, .int I b=>bif decide (k=I) then some (decide (a=b)) else none
  | some .string, .string a, .string b=>some (aG a b)
  | some (.struct G), .agg J, .agg M=>bif P.stoodInHeld t then none else pE P (jJ d) J.toList M.toList G.toList
  | some (.pointer _), .pointer none, .pointer b=>some b.isNone
  | some (.slice _), .slice none _ _, .slice b _ _=>some b.isNone
  | some (.func _ _ _), .nilFunc, .nilFunc=>some true
  | some (.func _ _ _), .nilFunc, .func _ _ _=>some false
  | some (.func _ _ _), .func _ _ _, .nilFunc=>some false
  | _,_,_=>none
def b8:Value→Bool
 | .bool _=>true
 | _=>false
def bb:Value→Bool
 | .string _=>true
 | _=>false
def az:Value→Bool
 | .bool b=>b
 | _=>false
def ah:Value→ByteArray
 | .string s=>s
 | _=>ByteArray.mk #[]
def ot:Value→Bool
 | .nilIface=>false
 | _=>true
def pD (t:TypeId) (x y:AV):Option Bool:=
 match toVal x,toVal y with
 | some a,some b=>bif ot a&&ot b&& !(P.eqGuardType P.depth t) then jJ P 20 t a b else none
 | _,_=>match P.underlying t,x,y with
  | some (.slice _), .sl _ _ _ _ _, .val (.slice none _ _)=>some false
  | some (.slice _), .val (.slice none _ _), .sl _ _ _ _ _=>some false
  | some (.func _ _ _), .clo .., .val .nilFunc=>some false
  | some (.func _ _ _), .val .nilFunc, .clo .. =>some false
  | some (.pointer _), .ptr .., .val (.pointer none)=>some false
  | some (.pointer _), .val (.pointer none), .ptr .. =>some false
  | some (.slice _), .lst _ _ n _, .val (.slice none _ _)=>bif decide (0 < n) then some false else none
  | _,_,_=>none
def uq (E:TypeId→Value→Value→(Bool→Option R)→Option R) (G I:List Value):List Field→(Bool→Option R)→Option R
 | [],K=>K true
 | f :: J, K => bif f.name == "_" then uq E G I J K else
  match r5 P f.type G f.offset,r5 P f.type I f.offset with
  | some a,some b=>E f.type a b fun q=>uq E G I J fun q'=>K (q&&q')
  | _,_=>none
def yv:Nat→TypeId→Value→Value→(Bool→Option R)→Option R
 | 0,_,_,_,_=>none
 | d+1,t,x,y,K=>
  match P.underlying t with
  | some .bool=>bif b8 x&&b8 y then K (az x==az y) else none
  | some .string=>bif bb x&&bb y then K (aG (ah x) (ah y)) else none
  | some (.struct G)=>match x,y with
   | .agg I, .agg J=>bif P.stoodInHeld t then none else uq P (yv d) I.toList J.toList G.toList K
   | _,_=>none
  | _=>match jJ P (d+1) t x y with | some q=>K q | none=>none
def Dk (t:TypeId) (x y:AV) (K:Bool→Option R):Option R:=
 match toVal x,toVal y with
 | some a,some b=>bif ot a&&ot b&& !(P.eqGuardType P.depth t) then yv P 20 t a b K else none
 | _,_=>match P.underlying t,x,y with
  | some (.slice _), .lst _ _ n _, .val (.slice none _ _)=>bif decide (0 < n) then K false else none
  | _,_,_=>match pD P t x y with | some q=>K q | none=>none
def Es (T:List AV) (o:Oper):Option AV:=
 bif o.op.operands.toList.all (fun x=>(toVal (aD T x)).isSome) then
  match o.op with
  | .select .. =>none
  | _=>match nB P (execOp (fun x=>((toVal (aD T x)).getD undef)) o) with
   | some (.value v)=>some (toAV v)
   | _=>none
 else none
def ag (sz m:Nat) (f:Nat→Nat→AV):List Value:=(List.range (m*sz)).map fun i=>kZ (f (i / sz) (i % sz))
def an (sz m:Nat) (f:Nat→Nat→AV):Bool:=(List.range (m*sz)).all fun i=>isVal (f (i / sz) (i % sz))
def wj (k:Option IntKind) (sz n:Nat) (f:Nat→Nat→AV):Option ao:=
 match k with
 | some k=>bif sz==1 then match mP k ((List.range n).map fun j=>f j 0) with | some zs=>some (.ints k zs) | none=>none else none
 | none=>bif an sz n f then some (.vals (ag sz n f)) else none
def zU (k:Option IntKind) (sz n:Nat) (f:Nat→Nat→AV) (K:ao→Option R):Option R:=
 match k with
 | some k=>bif sz==1 then match mP k ((List.range n).map fun j=>f j 0) with | some zs=>K (.ints k zs) | none=>none else none
 | none=>bif an sz n f then K (.vals (ag sz n f)) else none
def sF (H:Hp) (t:TypeId) (v:AV) (k:ao→Nat→Option R):Option R:=
 match v with
 | .val (.slice none 0 0)=>k (.cells []) 0
 | .val (.string s)=>bif P.cellsOf t==1 then k (.ints .u8 (dw s)) s.size else none
 | .sl _ G i off len=>bif t==G then
   match H[i]? with
   | some (.row c _ st)=>bif st== .dead then none else bif decide (off+len*P.cellsOf t≤c.len) then k (c.sub off (len*P.cellsOf t)) len else none
   | _=>none
  else none
 | .lst _ G n f=>bif t==G then zU (intKind P t) (P.cellsOf t) n f fun c=>k c n else none
 | _=>none
def MV (t:TypeId) (v:AV):Option AV:=
 match v with
 | .sl _ G _ _ n=>bif kU P t==some G then some (.val (.int .i64 n)) else none
 | .lst _ G n _=>bif kU P t==some G then some (.val (.int .i64 n)) else none
 | _=>none
def xA:Option AV→Option (Option Int)
 | none=>some none
 | some (.val (.int _ z))=>some (some z)
 | _=>none
def mK (n:Nat) (lo hi:Option AV) (k:Nat→Nat→Option R):Option R:=
 match xA lo,xA hi with
 | some none,some none=>k 0 n
 | some none,some (some h)=>bif decide (0≤h)&&decide (h≤n) then k 0 h.toNat else none
 | some (some l),some none=>bif decide (0≤l)&&decide (l≤n) then k l.toNat n else none
 | some (some l),some (some h)=>bif decide (0≤l)&&decide (l≤h)&&decide (h≤n) then k l.toNat h.toNat else none
 | _,_=>none
end
end Go.V
end
noncomputable section
namespace Go.V
open Go Go.RowKit
inductive Ex where
 | normal
 | exit (id:Nat)
 | ret
def Ex.to:Ex→Exit
 | .normal=> .normal
 | .exit id=> .exit id
 | .ret=> .ret
structure Env where
 C:FuncId→List AV→Option (Bool×AV)
 K:FuncId→Bool
 L:FuncId→Nat→List Bool→Option (List Nat×(List AV→Hp→Option (Bool×Ex×List AV×Hp)))
section
variable {R : Type} (P : Program)
def fB (g:FuncId):Bool:=
 match P.funcs[g]? with
 | some G => G.body.isSome && !(G.name == "runtime.NumGoroutine")
 | none=>false
def sk:AV→Bool
 | .val _=>true
 | .agg cs=>cs.all isVal
 | _=>false
def zo:AV→Bool
 | .tup vs=>vs.all sk
 | v=>sk v
def cC (c:ao) (I:List AV) (off sz:Nat):Nat→Nat→AV:=
 match c with
 | .cells _=>fun j q=>I.getD (off+j*sz+q) .any
 | .ints G zs=>bif sz==1 then fun j _=> .val (.int G ((zs.drop off).getD j 0)) else fun j q=> .val (.int G (zs.getD (off+j*sz+q) 0))
 | .vals vs=>fun j q=> .val (vs.getD (off+j*sz+q) undef)
def mQ (f:AV→(AV→Option R)→Option R):List AV→(List AV→Option R)→Option R
 | [],k=>k []
 | v :: l,k=>f v fun I=>mQ f l fun G=>k (I :: G)
def lh (H:Hp):Nat→AV→(AV→Option R)→Option R
 | 0,_,_=>none
 | d+1,v,k=>
  match v with
  | .val x=>k (.val x)
  | .sl fl t i off len=>match H[i]? with
   | some (.row c _ st)=>bif st== .dead then none else bif decide (off+len*P.cellsOf t≤c.len) then
     match c with
     | .cells l=>mQ (lh H d) l fun O=>k (.lst fl t len (cC c O off (P.cellsOf t)))
     | c=>k (.lst fl t len (cC c [] off (P.cellsOf t)))
    else none
   | _=>none
  | .lst .. =>k v
  | .eptr .. =>k v
  | .agg cs=>mQ (lh H d) cs fun G=>k (.agg G)
  | .tup cs=>mQ (lh H d) cs fun G=>k (.tup G)
  | .clo M a b=>mQ (lh H d) a fun I=>mQ (lh H d) b fun J=>k (.clo M I J)
  | _=>none
def ao.Aj:ao→List AV
 | .cells l=>l
 | _=> []
def cG (H:Hp):Nat→List AV→List Nat
 | 0,_=> []
 | d+1,l=>l.flatMap fun v=>match v with
  | .sl _ _ i _ _=>match H[i]? with
   | some (.row c _ .live)=>i :: cG H d c.Aj
   | some (.row c _ .froz)=>cG H d c.Aj
   | _=> []
  | .agg cs=>cG H d cs
  | .tup cs=>cG H d cs
  | .clo _ a b=>cG H d a ++ cG H d b
  | _=> []
def gW (H:Hp) (i:Nat):Hp:=match H[i]? with | some (.row c ty .live)=>H.set i (.row c ty .froz) | _=>H
def gX (ids:List Nat) (H:Hp):Hp:=ids.foldl gW H
def owns:AV→Bool
 | .val _=>false
 | .lst .. =>false
 | .eptr .. =>false
 | .agg cs=> !(cs.all fun c=>match c with | .val _=>true | .lst .. =>true | _=>false)
 | _=>true
def oo (G:Nat→Option (Nat×Nat)) (cells:List AV):List (Nat×AV)→Option (List AV)
 | []=>some cells
 | (i,v) :: rest=>
  match G i,tF v with
  | some (off,sz),some l=>bif (l.length==sz&&decide (off+l.length≤cells.length)&&l.all bB) then oo G (cells.take off ++ l ++ cells.drop (off+l.length)) rest else none
  | _,_=>none
def rE (G:Nat→Option (Nat×Nat)) (cells:List AV):List (Nat×AV)→(List AV→Option R)→Option R
 | [],k=>k cells
 | (i,v) :: rest,k=>
  match G i,tF v with
  | some (off,sz),some l=>bif (l.length==sz&&decide (off+l.length≤cells.length)&&l.all bB) then rE G (cells.take off ++ l ++ cells.drop (off+l.length)) rest k else none
  | _,_=>none
def zeroCells (t:TypeId):Option (List AV):=match nB P (zeroValue t) with | some z=>some (z.cells.toList.map .val) | none=>none
def dC (G:Option IntKind) (l:List AV):ao:=
 match G with
 | some k=>match mP k l with | some zs=> .ints k zs | none=> .cells l
 | none=> .cells l
def aU (n e:Nat):Bool:=decide (n*P.bytesOf e≤140737488355328)&&decide (n≤9223372036854775807)
def ao.bk:ao→Bool
 | .cells l=>l.all bB
 | .ints _ _=>true
 | .vals vs=>vs.all (·.oneCell')
def qR (e:TypeId):Bool:=match zeroCells P e with | some z=>z.length==P.cellsOf e | none=>false
def mI (tx:TypeId):Bool:=match P.underlying tx with | some (.slice _)=>true | some .string=>true | _=>false
def Ku (lo:Nat) (H:Hp) (e:TypeId) (s:AV) (fl:Bool) (i off len:Nat) (cx:ao) (n:Nat) (k:AV→Hp→Option R):Option R:=
 match H[i]? with
 | some (.row c ty st)=>
  bif (st== .live&&ty==e&&decide (off=0)&&decide (len*P.cellsOf e≤c.len)&&aU P (len+n) e&&cx.bk) then
   match c.app (intKind P e) (len*P.cellsOf e) cx with
   | some c'=>
    bif fl then bif decide (n=0) then k s H else k (.sl false e H.length 0 (len+n)) (H ++ [.row c' e .live])
    else bif decide (i < lo) then none else k (.sl false e H.length 0 (len+n)) (H.set i (.row c ty .dead) ++ [.row c' e .live])
   | none=>none
  else none
 | _=>none
def Kt (H:Hp) (e:TypeId) (s:AV) (cx:ao) (n:Nat) (k:AV→Hp→Option R):Option R:=
 bif decide (n=0) then k s H else bif aU P n e then
  match (ao.cells []).app (intKind P e) 0 cx with
  | some c=>k (.sl false e H.length 0 n) (H ++ [.row c e .live])
  | none=>none
 else none
def Ks (H:Hp) (e:TypeId) (s:AV) (m:Nat) (f:Nat→Nat→AV) (cx:ao) (n:Nat) (k:AV→Hp→Option R):Option R:=
 bif decide (n=0) then k s H else bif aU P (m+n) e then
  zU (intKind P e) (P.cellsOf e) m f fun G=>match G.app (intKind P e) (m*P.cellsOf e) cx with
   | some c'=>k (.sl false e H.length 0 (m+n)) (H ++ [.row c' e .live])
   | none=>none
 else none
def Kx (lo:Nat) (H:Hp) (e:TypeId) (s:AV) (cx:ao) (n:Nat) (k:AV→Hp→Option R):Option R:=
 match s with
 | .val (.slice none 0 0)=>Kt P H e s cx n k
 | .sl fl G i off len=>bif e==G then Ku P lo H e s fl i off len cx n k else none
 | .lst fl G m f=>bif e==G&&fl then Ks P H e s m f cx n k else none
 | _=>none
def Kw (lo:Nat) (H:Hp) (ts tx:TypeId) (s x:AV) (k:AV→Hp→Option R):Option R:=
 match kU P ts with
 | some e=>
  bif mI P tx&&qR P e then sF P H e x fun cx n=>Kx P lo H e s cx n k
  else none
 | none=>none
def yI (tx:TypeId):Bool:=match P.underlying tx with | some (.int _)=>true | _=>false
def DE (H:Hp) (ts:TypeId) (s x:AV) (k:AV→Hp→Option R):Option R:=
 match kU P ts,s,x with
 | some e, .val (.slice none 0 0), .val (.int _ n)=>bif decide (0 < n)&&aU P n.toNat e&&qR P e&&decide (0 < P.cellsOf e) then k (.sl false e H.length 0 n.toNat) (H ++ [.row (.cells []) e .live]) else none
 | _,_,_=>none
def Ed (H:Hp) (t:TypeId) (l c:AV) (k:AV→Hp→Option R):Option R:=
 match kU P t,l,c with
 | some e, .val (.int _ l), .val (.int _ c)=>
  bif decide (0≤l)&&decide (l≤c)&&decide ((P.bytesOf e:Int)*c≤281474976710656)&&decide (c≤9223372036854775807) then
   match (P.info? e).isSome,zeroCells P e with
   | true,some z=>
    match (match intKind P e,z with
     | some G, [.val (.int I 0)]=>bif decide (G=I)&&P.cellsOf e==1 then some (ao.ints G (List.replicate l.toNat 0)) else none
     | _,z=>bif z.length==P.cellsOf e then some (.cells (List.replicate l.toNat z).flatten) else none) with
    | some c=>k (.sl false e H.length 0 l.toNat) (H ++ [.row c e .live])
    | none=>none
   | _,_=>none
  else none
 | _,_,_=>none
def FO (H:Hp) (t:TypeId) (x:AV) (lo hi I:Option AV) (k:AV→Option R):Option R:=
 match P.underlying t,x with
 | some .string, .val (.string s)=>match I with
  | none=>mK s.size lo hi fun l h=>k (.val (.string (eT s l h)))
  | _=>none
 | some (.slice e), .sl fl G i off len=>bif e==G&&(P.info? e).isSome then
   match I with
   | none=>mK len lo hi fun l h=>k (.sl (match hi with | none=>fl | _=>false) G i (off+l*P.cellsOf G) (h - l))
   | some (.val (.int _ m))=>match hi with
    | some (.val (.int _ z))=>mK len lo hi fun l h=>bif decide (z≤m)&&decide (m≤len) then k (.sl (decide (m=z)) G i (off+l*P.cellsOf G) (h - l)) else none
    | _=>none
   | _=>none
  else none
 | some (.slice e), .lst fl G n f=>bif e==G&&(P.info? e).isSome then
   match I with
   | none=>mK n lo hi fun l h=>k (.lst (match hi with | none=>fl | _=>false) G (h - l) (fun j q=>f (j+l) q))
   | some (.val (.int _ m))=>match hi with
    | some (.val (.int _ z))=>mK n lo hi fun l h=>bif decide (z≤m)&&decide (m≤n) then k (.lst (decide (m=z)) G (h - l) (fun j q=>f (j+l) q)) else none
    | _=>none
   | _=>none
  else none
 | some (.slice e), .val (.slice none 0 0)=>match I with
  | none=>bif (P.info? e).isSome then mK 0 lo hi fun l h=>k x else none
  | _=>none
 | some (.array n e), .ptr i off=>match I,H[i]? with
  | none,some (.row c ty st)=>bif (!(st== .dead)&&(P.info? e).isSome&&decide (off+n*P.cellsOf e≤c.len)) then mK n lo hi fun l h=>k (.sl (match hi with | none=>true | _=>false) e i (off+l*P.cellsOf e) (h - l)) else none
  | _,_=>none
 | _,_=>none
def DL (t:TypeId) (x I:AV) (k:AV→Option R):Option R:=
 match P.underlying t,x,I with
 | some (.slice e), .lst _ G n f, .val (.int _ z)=>bif e==G&&(P.info? e).isSome then bif decide (0≤z)&&decide (z < n) then k (.eptr G n f z.toNat 0) else none else none
 | some (.slice e), .sl _ G i off n, .val (.int _ z)=>bif e==G&&(P.info? e).isSome then bif decide (0≤z)&&decide (z < n) then k (.ptr i (off+z.toNat*P.cellsOf e)) else none else none
 | some (.array n e), .ptr i off, .val (.int _ z)=>bif (P.info? e).isSome then bif decide (0≤z)&&decide (z < n) then k (.ptr i (off+z.toNat*P.cellsOf e)) else none else none
 | some (.array n e), .eptr G m f j off, .val (.int _ z)=>bif (P.info? e).isSome then bif decide (0≤z)&&decide (z < n) then k (.eptr G m f j (off+z.toNat*P.cellsOf e)) else none else none
 | _,_,_=>none
def DK (t:TypeId) (x I:AV) (k:AV→Option R):Option R:=
 match P.underlying t,x,I with
 | some .string, .val (.string s), .val (.int _ z)=>bif decide (0≤z)&&decide (z < s.size) then k (.val (.int .u8 (aR s z.toNat))) else none
 | some (.array n e), .agg cs, .val (.int _ z)=>
  bif decide (0≤z)&&decide (z < n) then
   match intKind P e with
   | some G=>match mP G cs with
    | some zs=>bif P.cellsOf e==1&&zs.length==n then k (.val (.int G (zs.getD z.toNat 0))) else none
    | none=>none
   | none=>uV P e cs (z.toNat*P.cellsOf e) k
  else none
 | _,_,_=>none
def Nx:AV→Bool
 | .val (.string _)=>false
 | _=>true
def widens (a b:IntKind):Bool:=decide (b.min≤a.min)&&decide (a.max≤b.max)
def CZ (H:Hp) (M I:TypeId) (x:AV) (k:AV→Hp→Option R):Option R:=
 match P.underlying M,P.underlying I with
 | some (.int J),some (.int G)=>match x with
  | .val (.int _ n)=>bif widens J G then bif ai G n then k (.val (.int G n)) H else none else k (.val (.int G (G.wrap n))) H
  | _=>none
 | some .string,some .string=>match x with
  | .val (.string s)=>k x H
  | _=>none
 | some (.slice e),some .string=>bif intKind P e==some .u8&&P.cellsOf e==1&&Nx x then sF P H e x fun c n=>match c.uB .u8 with
   | some zs=>k (.val (.string (ofBytes zs))) H
   | none=>none
  else none
 | some .string,some (.slice e)=>match x with
  | .val (.string s)=>bif intKind P e==some .u8&&P.cellsOf e==1 then k (.sl false e H.length 0 s.size) (H ++ [.row (.ints .u8 (dw s)) e .live]) else none
  | _=>none
 | _,_=>none
mutual
def Mw:AV→List Nat
 | .ptr i _=> [i]
 | .sl _ _ i _ _=> [i]
 | .yld i=> [i]
 | .agg cs=>fy cs
 | .tup cs=>fy cs
 | .clo _ a b=>fy a ++ fy b
 | _=> []
def fy:List AV→List Nat
 | []=> []
 | v :: l=>Mw v ++ fy l
end
mutual
def sx (ρ:Nat→Nat):AV→AV
 | .ptr i off=> .ptr (ρ i) off
 | .sl fl t i off n=> .sl fl t (ρ i) off n
 | .yld i=> .yld (ρ i)
 | .agg cs=> .agg (fj ρ cs)
 | .tup cs=> .tup (fj ρ cs)
 | .clo G a b=> .clo G (fj ρ a) (fj ρ b)
 | .any=> .any
 | .val v=> .val v
 | .lst fl t n f=> .lst fl t n f
 | .eptr t n f j off=> .eptr t n f j off
def fj (ρ:Nat→Nat):List AV→List AV
 | []=> []
 | v :: l=>sx ρ v :: fj ρ l
end
def ao.ids:ao→List Nat
 | .cells l=>fy l
 | _=> []
def bQ.ids:bQ→List Nat
 | .row c _ .dead=> []
 | .row c _ _=>c.ids
 | .loop r=>fy r.T
def ao.Fj (ρ:Nat→Nat):ao→ao
 | .cells l=> .cells (fj ρ l)
 | c=>c
def zQ (ρ:Nat→Nat):bQ→bQ
 | .row _ ty .dead=> .row (.cells []) ty .dead
 | .row c ty st=> .row (c.Fj ρ) ty st
 | .loop r=> .loop { r with T:=fj ρ r.T }
def reach (H:Hp):Nat→List Nat→List Nat→List Nat
 | 0,_,G=>G
 | _, [],G=>G
 | d+1,i :: l,G=>bif G.contains i then reach H d l G else reach H d (l ++ (match H[i]? with | some b=>b.ids | none=> [])) (G ++ [i])
def idx:List Nat→Nat→Nat
 | [],_=>0
 | j :: l,i=>bif j==i then 0 else idx l i+1
def tG (r:List Nat) (l:List AV) (H:Hp):Bool:=(fy l).all (fun i=>r.contains i)&&r.all fun i=>match H[i]? with | some b=>b.ids.all (fun j=>r.contains j) | none=>false
def funcOf:AV→Option (FuncId×List AV×List AV)
 | .clo (.func G) a b=>some (G,a,b)
 | .val (.func (.func G) a b)=>some (G,a.toList.map gS,b.toList.map gS)
 | _=>none
inductive Tch where
 | all
 | some (rd:Bool) (l:List (Nat×Bool))
def tid (w:Bool):AV→List (Nat×Bool)
 | .ptr i _=> [(i,w)]
 | .sl _ _ i _ _=> [(i,w)]
 | _=> []
def H6 (H:Hp) (l:List AV) (r:List Nat):Tch:=bif tG r l H then .some false (r.map fun i=>(i,false)) else .some true []
def AH (H:Hp) (q:Option (FuncId×List AV×List AV)) (args:List AV):Tch:=
 match q with
 | some q=>H6 H (q.2.1 ++ args ++ q.2.2) (reach H 60 (fy (q.2.1 ++ args ++ q.2.2)) [])
 | none=> .some true []
def fm (E:Env) (T:List AV) (H:Hp) (c:Call):Tch:=
 match c.callee with
 | .builtin .append=>match c.args.toList with
  | [s,x]=> .some false (tid true (aD T s) ++ tid false (aD T x))
  | _=> .all
 | .builtin .unsafeString=>match c.args.toList with
  | p :: _=> .some false (tid true (aD T p))
  | _=> .all
 | .builtin .clear=>match c.args.toList with
  | [x]=> .some false (tid true (aD T x))
  | _=> .all
 | .builtin _=> .some false []
 | .value f=>AH H (funcOf (aD T f)) (c.args.toList.map (aD T))
 | _=> .all
def cU (E:Env) (T:List AV) (H:Hp) (o:Oper):Tch:=
 match o.op with
 | .load _ x=> .some false (tid false (aD T x))
 | .store _ x _=> .some false (tid true (aD T x))
 | .convert _ _ x=> .some false (tid false (aD T x))
 | .slice _ x _ _ _=> .some false (tid false (aD T x))
 | .call c=>fm E T H c
 | _=> .some false []
structure Cx (R:Type) where
 P:Program
 E:Env
 cf:Nat→FuncId→List AV→Hp→(AV→Hp→Option R)→Option R
 yf:Nat→Nat→List AV→Hp→(AV→Hp→Option R)→Option R
 u:Nat
 fb:Nat
 lo:Nat
 g:FuncId
 rd:Bool
abbrev Kn (R:Type):=AV→Hp→Option R
def KP (x:Cx R) (g:FuncId) (args:List AV) (H:Hp) (k:Kn R):Option R:=
 match x.E.C g args with
 | some r=>bif r.1 then k r.2 H else none
 | none=>x.cf x.lo g args H k
def KN (x:Cx R) (g:FuncId) (args G:List AV) (H:Hp) (k:Kn R):Option R:=
 match x.E.C g G with
 | some r=>bif r.1 then bif zo r.2 then k r.2 H else bif (cG H 8 args).all (fun i=>decide (x.lo≤i)) then k r.2 (gX (cG H 8 args) H) else none else none
 | none=>x.cf x.lo g args H k
def tB (x:Cx R) (g:FuncId) (args:List AV) (H:Hp) (k:Kn R):Option R:=
 bif fB x.P g then
  bif args.any owns then
   bif x.E.K g then mQ (lh x.P H 8) args fun G=>KN x g args G H k else x.cf x.lo g args H k
  else KP x g args H k
 else none
def F6 (T:List AV) (c a b:Operand) (H:Hp) (k:Kn R):Option R:=
 match aD T c with
 | .val (.bool t)=>bif t then k (aD T a) H else k (aD T b) H
 | _=>none
def Ig (P:Program) (G:TypeId) (z:List AV):ao:=
 match P.underlying G with
 | some (.array _ e)=>dC (intKind P e) z
 | _=> .cells z
def FR (P:Program) (G:TypeId) (H:Hp) (k:Kn R):Option R:=
 match zeroCells P G with
 | some z=>k (.ptr H.length 0) (H ++ [.row (Ig P G z) G .live])
 | none=>none
def FW (G:TypeId) (v:AV) (H:Hp) (k:Kn R):Option R:=
 match tF v with
 | some l=>bif l.all bB then k (.ptr H.length 0) (H ++ [.row (.cells l) G .live]) else none
 | none=>none
def rD (T:List AV) (G:Array (Nat×Operand)):List (Nat×AV):=G.toList.map fun p=>(p.1,aD T p.2)
def fieldPlace (P:Program) (G:Array Field) (i:Nat):Option (Nat×Nat):=(G[i]?).map fun f=>(f.offset,P.cellsOf f.type)
def yq (P:Program) (e:TypeId) (i:Nat):Option (Nat×Nat):=some (i*P.cellsOf e,P.cellsOf e)
def CK (P:Program) (t:TypeId) (I:List (Nat×AV)):Option (List AV):=
 match zeroCells P t,P.underlying t with
 | some z,some (.struct G)=>bif G.toList.all (fun f=>(P.info? f.type).isSome) then oo (fieldPlace P G) z I else none
 | some z,some (.array _ e)=>bif (P.info? e).isSome then oo (yq P e) z I else none
 | _,_=>none
def Aa (P:Program) (t:TypeId) (I:List (Nat×AV)) (H:Hp) (k:Kn R):Option R:=
 match zeroCells P t,P.underlying t with
 | some z,some (.struct G)=>bif G.toList.all (fun f=>(P.info? f.type).isSome) then rE (fieldPlace P G) z I fun l=>k (.agg l) H else none
 | some z,some (.array _ e)=>bif (P.info? e).isSome then rE (yq P e) z I fun l=>k (.agg l) H else none
 | _,_=>none
def CL (P:Program) (e:TypeId) (n:Nat) (G:List (Nat×AV)):Option (List AV):=
 match zeroCells P e with
 | some z=>bif (P.info? e).isSome&&decide (n*P.cellsOf e≤16777216)&&z.length==P.cellsOf e then oo (yq P e) (List.replicate n z).flatten G else none
 | none=>none
def Ab (P:Program) (t:TypeId) (n:Nat) (G:List (Nat×AV)) (H:Hp) (k:Kn R):Option R:=
 match kU P t with
 | some e=>match zeroCells P e with
  | some z=>bif (P.info? e).isSome&&decide (n*P.cellsOf e≤16777216)&&z.length==P.cellsOf e then rE (yq P e) (List.replicate n z).flatten G fun l=>k (.sl true e H.length 0 n) (H ++ [.row (dC (intKind P e) l) e .live]) else none
  | none=>none
 | none=>none
def F2 (P:Program) (s f:Nat) (v:AV) (H:Hp) (k:Kn R):Option R:=
 match LV P s f v with
 | some v=>k v H
 | none=>none
def F4 (v:AV) (H:Hp) (k:Kn R):Option R:=
 match v with
 | .ptr i off=>k (.ptr i off) H
 | .eptr t n f j off=>k (.eptr t n f j off) H
 | .clo (.func g) a b=>k (.clo (.func g) a b) H
 | .yld i=>k (.yld i) H
 | .val (.func (.func g) a b)=>k (.val (.func (.func g) a b)) H
 | _=>none
def yw (P:Program) (neg:Bool) (t:TypeId) (a b:AV) (H:Hp) (k:Kn R):Option R:=
 Dk P t a b fun q=>k (.val (.bool (bif neg then !q else q))) H
def xy (P:Program) (G:BinOp) (t:TypeId) (a b:AV) (H:Hp) (k:Kn R):Option R:=
 match G with
 | .eql=>yw P false t a b H k
 | .neq=>yw P true t a b H k
 | _=>none
def KE (I:BinOp) (G:IntKind) (a:Int) (J:IntKind) (b:Int) (H:Hp) (k:Kn R):Option R:=
 match I with
 | .shl=>z7 .shl G a b fun v=>k v H
 | .shr=>z7 .shr G a b fun v=>k v H
 | I=>bif decide (G=J) then DN I G a b fun v=>k v H else none
def FU (P:Program) (G:BinOp) (t:TypeId) (a b:AV) (H:Hp) (k:Kn R):Option R:=
 match a with
 | .val v=>match v with
  | .int I x=>match b with
   | .val (.int J y)=>KE G I x J y H k
   | _=>none
  | .string x=>match b with
   | .val (.string y)=>Gn G x y fun v=>k v H
   | _=>none
  | v=>xy P G t (.val v) b H k
 | a=>xy P G t a b H k
def F1 (v:AV) (G:Nat) (H:Hp) (k:Kn R):Option R:=
 match v with
 | .tup vs=>match vs[G]? with
  | some v=>k v H
  | none=>none
 | _=>none
def nI (P:Program) (T:List AV) (o:Oper) (H:Hp) (k:Kn R):Option R:=
 match Es P T o with
 | some v=>k v H
 | none=>none
def F3 (P:Program) (T:List AV) (o:Oper) (args:List Operand) (ts:List TypeId) (H:Hp) (k:Kn R):Option R:=
 match args,ts with
 | [x], [t]=>match MV P t (aD T x) with
  | some v=>k v H
  | none=>nI P T o H k
 | _,_=>none
def FT (P:Program) (lo:Nat) (T:List AV) (args:List Operand) (ts:List TypeId) (H:Hp) (k:Kn R):Option R:=
 match args,ts with
 | [s,x], [ts,tx]=>bif yI P tx then DE P H ts (aD T s) (aD T x) k else Kw P lo H ts tx (aD T s) (aD T x) k
 | _,_=>none
def F0 (P:Program) (T:List AV) (o:Oper) (args:List Operand) (H:Hp) (k:Kn R):Option R:=
 match args with
 | [x]=>match aD T x with
  | .sl _ _ i off len=>bif len==0 then none else k (.ptr i off) H
  | .val _=>nI P T o H k
  | _=>none
 | _=>none
def QG (P:Program) (lo:Nat) (tp:TypeId) (i off:Nat) (z:Int) (H:Hp) (k:Kn R):Option R:=
 match P.underlying tp,H[i]? with
 | some (.pointer e),some (.row (.ints .u8 zs) ty .live)=>
  bif e==ty&&P.cellsOf e==1&&off==0&&decide (0 < z)&&decide (z≤9223372036854775807)&&decide (z.toNat≤zs.length)&&zs.all (ai .u8)&&decide (lo≤i) then
   k (.val (.string (ofBytes (zs.take z.toNat)))) (H.set i (.row (.ints .u8 zs) ty .froz))
  else none
 | _,_=>none
def F7 (P:Program) (lo:Nat) (T:List AV) (o:Oper) (args:List Operand) (ts:List TypeId) (H:Hp) (k:Kn R):Option R:=
 match args,ts with
 | [p,n], [tp,_]=>match aD T p with
  | .ptr i off=>match aD T n with
   | .val (.int _ z)=>QG P lo tp i off z H k
   | _=>none
  | .val _=>nI P T o H k
  | _=>none
 | _,_=>none
def oZ (n:Nat) (z:List AV):List Value:=(List.range (n*z.length)).map fun j=>(z.map kZ).getD (j % z.length) undef
def KZ (P:Program) (lo:Nat) (H:Hp) (ts:TypeId) (x:AV) (k:Hp→Option R):Option R:=
 match kU P ts,x with
 | some e, .sl _ G i off n=>bif decide (i < lo) then none else
  match H[i]?,zeroCells P e with
  | some (.row (.vals vs) ty .live),some z=>
   bif e==G&&z.all isVal&&z.all bB&&z.length==P.cellsOf e&&decide (0 < n)&&decide (off+n*P.cellsOf e≤vs.length) then k (H.set i (.row (.vals (vs.take off ++ oZ n z ++ vs.drop (off+n*P.cellsOf e))) ty .live)) else none
  | _,_=>none
 | _,_=>none
def FY (P:Program) (lo:Nat) (T:List AV) (args:List Operand) (ts:List TypeId) (H:Hp) (k:Kn R):Option R:=
 match args,ts with
 | [x], [t]=>KZ P lo H t (aD T x) fun G=>k (.tup []) G
 | _,_=>none
def PY (P:Program) (lo:Nat) (T:List AV) (o:Oper) (b:Builtin) (c:Call) (H:Hp) (k:Kn R):Option R:=
 match b with
 | .len=>F3 P T o c.args.toList c.argTypes.toList H k
 | .append=>FT P lo T c.args.toList c.argTypes.toList H k
 | .unsafeSliceData=>F0 P T o c.args.toList H k
 | .unsafeString=>F7 P lo T o c.args.toList c.argTypes.toList H k
 | .clear=>FY P lo T c.args.toList c.argTypes.toList H k
 | .min=>nI P T o H k
 | .max=>nI P T o H k
 | .cap=>nI P T o H k
 | _=>none
def F8 (x:Cx R) (f:AV) (args:List AV) (H:Hp) (k:Kn R):Option R:=
 match f with
 | .val v=>match v with
  | .func G a b=>match G with
   | .func g=>tB x g (a.toList.map gS ++ args ++ b.toList.map gS) H k
   | _=>none
  | _=>none
 | .clo G a b=>match G with
  | .func g=>tB x g (a ++ args ++ b) H k
  | _=>none
 | .yld i=>x.yf x.lo i args H k
 | _=>none
def Dq (P:Program) (g:FuncId):Bool:=
 match P.funcs[g]? with
 | some G => G.body.isNone && G.name == "internal/abi.NoEscape" && (G.origin == "" || G.origin == "internal/abi.NoEscape")
 | none=>false
def Dp (P:Program) (f:AV) (args:List AV):Option AV:=
 match f,args with
 | .val (.func (.func g) a b), [v]=>bif a.size==0&&b.size==0&&Dq P g then some v else none
 | _,_=>none
def PZ (x:Cx R) (f:AV) (args:List AV) (H:Hp) (k:Kn R):Option R:=
 match Dp x.P f args with
 | some v=>k v H
 | none=>F8 x f args H k
def FX (x:Cx R) (T:List AV) (o:Oper) (c:Call) (H:Hp) (k:Kn R):Option R:=
 match c.callee with
 | .value f=>PZ x (aD T f) (c.args.toList.map (aD T)) H k
 | .builtin b=>PY x.P x.lo T o b c H k
 | _=>none
def Lg (P:Program) (s d:TypeId) (i off:Nat) (H:Hp) (k:Kn R):Option R:=
 match P.underlying s,P.underlying d with
 | some (.pointer t),some .unsafePointer=>match P.info? t,H[i]? with
  | some j,some (.row c ty st)=>bif !(st== .dead)&& !(j.size==0)&&decide (off < c.len) then k (.ptr i off) H else none
  | _,_=>none
 | some .unsafePointer,some (.pointer u)=>match P.info? u,H[i]? with
  | some j,some (.row c ty st)=>bif !(st== .dead)&&ty==u&&off==0&&decide (0 < P.cellsOf u)&&decide (P.cellsOf u≤c.len) then k (.ptr i off) H else none
  | _,_=>none
 | _,_=>none
def FZ (P:Program) (H:Hp) (s d:TypeId) (v:AV) (k:Kn R):Option R:=
 match v with
 | .ptr i off=>Lg P s d i off H k
 | v=>CZ P H s d v k
def OM (P:Program) (J:BinOp) (t:TypeId) (i o j I:Nat) (H:Hp) (k:Kn R):Option R:=
 match P.underlying t,J with
 | some (.pointer G), .eql=>bif i==j&&o==I&&(P.info? G).isSome then k (.val (.bool true)) H else none
 | some (.pointer G), .neq=>bif i==j&&o==I&&(P.info? G).isSome then k (.val (.bool false)) H else none
 | _,_=>none
def FV (P:Program) (G:BinOp) (t:TypeId) (a b:AV) (H:Hp) (k:Kn R):Option R:=
 match a,b with
 | .ptr i o, .ptr j I=>OM P G t i o j I H k
 | a,b=>FU P G t a b H k
def F5 (x:Cx R) (T:List AV) (o:Oper) (H:Hp) (k:Kn R):Option R:=
 match o.op with
 | .move a=>k (aD T a) H
 | .assign a=>k (aD T a) H
 | .pick c a b=>F6 T c a b H k
 | .alloc G=>FR x.P G H k
 | .box G a=>FW G (aD T a) H k
 | .build t I=>Aa x.P t (rD T I) H k
 | .buildSlice t n I=>Ab x.P t n (rD T I) H k
 | .load t a=>pV x.P H t (aD T a) fun v=>k v H
 | .store t a b=>Gl x.P x.lo H t (aD T a) (aD T b) fun J=>k (.val undef) J
 | .fieldAddr s a f=>F2 x.P s f (aD T a) H k
 | .field s a f=>Ds x.P s f (aD T a) fun v=>k v H
 | .indexAddr t a i=>DL x.P t (aD T a) (aD T i) fun v=>k v H
 | .index t a i=>DK x.P t (aD T a) (aD T i) fun v=>k v H
 | .slice t a lo hi O=>FO x.P H t (aD T a) (lo.map (aD T)) (hi.map (aD T)) (O.map (aD T)) fun v=>k v H
 | .convert s d a=>FZ x.P H s d (aD T a) k
 | .makeSlice t l c=>Ed x.P H t (aD T l) (aD T c) k
 | .makeFunc M a b=>k (.clo M (a.toList.map (aD T)) (b.toList.map (aD T))) H
 | .nilCheck a=>F4 (aD T a) H k
 | .binOp U t a b _=>FV x.P U t (aD T a) (aD T b) H k
 | .extract a i=>F1 (aD T a) i H k
 | .call c=>FX x T o c H k
 | .unOp .. =>nI x.P T o H k
 | _=>none
def kD (G:Option Tmp) (v:AV) (T:List AV):List AV:=match G with | some d=>Ea T d v | none=>T
def oq (T:List AV) (d:Nat) (b:Bool):List AV:=Ea T d (.val (.bool b))
abbrev Tl:=List (Tch×Nat×Nat)
abbrev Lk (R:Type):=List AV→Hp→Tl→Option R
def ox (o:Op):Bool:=match o with | .call { callee:= .value _, .. } =>true | _=>false
def iK (x:Cx R) (G:Bool) (o:Oper) (H:Hp):Cx R:=bif G&&ox o.op then { x with lo:=H.length } else x
def uC (x:Cx R) (I:Bool) (o:Oper) (T:List AV) (H:Hp) (M:Tl) (J:Lk R):Option R:=
 F5 (iK x I o H) T o H fun v G=>J (kD o.dst v T) G ((bif I then cU x.E T H o else .all,H.length,G.length) :: M)
def yK (o:Oper) (T:List AV) (H:Hp) (I:Tl) (G:Lk R):Option R:=G (kD o.dst (.val undef) T) H ((.some false [],H.length,H.length) :: I)
def MD (x:Cx R) (J:Bool) (o:Oper) (d:Nat) (M:Bool) (T:List AV) (H:Hp) (I:Tl) (G:Lk R):Option R:=
 match al T d with
 | .val v=>match v with
  | .bool b=>
   bif b then (bif M then uC x J o (oq T d true) H I G else yK o (oq T d true) H I G)
   else (bif M then yK o (oq T d false) H I G else uC x J o (oq T d false) H I G)
  | _=>yK o T H I G
 | _=>none
def DQ (x:Cx R) (ops:Array Oper) (G:Bool) (o:Oper) (T:List AV) (H:Hp) (M:Tl) (J:Lk R):Option R:=
 match o.guard with
 | none=>uC x G o T H M J
 | some I=>match (ops[I.1]?).bind (·.dst) with
  | some d=>MD x G o d I.2 T H M J
  | none=>none
def lS (x:Cx R) (ops:Array Oper):List (Bool×Oper)→List AV→Hp→Tl→Lk R→Option R
 | [],T,H,G,k=>k T H G
 | o :: l,T,H,G,k=>DQ x ops o.1 o.2 T H G fun T H G=>lS x ops l T H G k
def gU (o:Oper):List Nat:=(o.after.toList.filter (Region.binds .any)).map (·.on)
def mN (ops:List Oper):List (List Nat):=
 ops.foldl (fun G o=>G ++ [((gU o) ++ (gU o).flatMap fun e=>G.getD e []).eraseDups]) []
def GY (c:List (List Nat)) (n m:Nat):Bool:=(List.range n).all fun d=>decide (d < m) ||(List.range d).all fun i=>(c.getD d []).contains i
def DF (c:List (List Nat)) (n:Nat):Nat:=((List.range (n+1)).find? fun m=>GY c n m).getD n
def C5 (ops:Array Oper):Bool:=
 let l:=ops.toList
 let c:=mN l
 let m:=DF c l.length
 c.length==l.length&&GY c l.length m&&decide (m≤l.length)&&
 ((List.range l.length).all fun d=>match l[d]? with
  | none=>false
  | some o=>(gU o).all (fun e=>decide (e < d))&&(c.getD d []).all fun i=>(gU o).contains i ||(gU o).any fun e=>(c.getD e []).contains i)&&
 ((List.range m).all fun i=>match l[i]? with
  | none=>false
  | some o=>(List.range m).all fun j=>match l[j]? with
   | none=>false
   | some G=>(i==j ||o.dst.isNone || !(o.dst==G.dst))&&(match G.dst with | none=>true | some t=> !(o.looksAt ops).contains t ||((c.getD i []).contains j ||(c.getD j []).contains i)))
def Ef (l:List (Nat×Bool)):Bool:=l.all fun x=> !x.2
def apart:Tch→Tch→Bool
 | .some false [],_=>true
 | _, .some false []=>true
 | .some a l, .some b m=>(!a ||Ef m)&&(!b ||Ef l)&&l.all fun x=>m.all fun y=> !(x.1==y.1) ||(!x.2&& !y.2)
 | _,_=>false
def Tch.rd:Tch→Bool
 | .all=>true
 | .some a _=>a
def Tch.ls:Tch→List (Nat×Bool)
 | .all=> []
 | .some _ l=>l
def Tch.isSome:Tch→Bool
 | .all=>false
 | .some _ _=>true
def Cw (a b:Tch×Nat×Nat):Bool:=apart a.1 b.1&&(!a.1.rd ||decide (b.2.2≤b.2.1))&&b.1.ls.all fun y=> !(decide (a.2.1≤y.1)&&decide (y.1 < a.2.2))
def cD (ops:Array Oper):Nat:=DF (mN ops.toList) ops.size
def H5 (ops:Array Oper) (G:Tl):Bool:=
 (List.range (cD ops)).all fun j=>(match G.reverse[j]? with | some a=>a.1.isSome&&a.1.ls.all (fun y=>decide (y.1 < a.2.1)) | none=>false)&&(List.range j).all fun i=>((mN ops.toList).getD j []).contains i ||(match G.reverse[i]?,G.reverse[j]? with | some a,some b=>Cw a b | _,_=>false)
def jL (ops:Array Oper):List (Bool×Oper):=ops.toList.zipIdx.map fun p=>(decide (p.2 < cD ops),p.1)
def Dt (T:List AV) (c:Operand) (b:Bool):List AV:=match c with | .tmp d=>oq T d b | _=>T
abbrev Cn (R:Type):=Ex→List AV→Hp→Option R
def uI (G:List AV→Hp→Cn R→Option R):Nat→List AV→Hp→Cn R→Option R
 | 0,_,_,_=>none
 | n+1,T,H,k=>G T H fun e T H=>match e with
  | .normal=>uI G n T H k
  | e=>k e T H
def ll (keep:List Nat) (T:List AV):List AV:=T.mapIdx fun i v=>bif keep.contains i then v else .any
def yZ:List Nat→Bool
 | []=>true
 | i :: l=> !l.contains i&&yZ l
def rI (r:List Nat) (T:List AV) (H:Hp):Bool:=yZ r&&(fy T).all (fun i=>r.contains i)&&r.all fun i=>match H[i]? with | some b=>b.ids.all (fun j=>r.contains j) | none=>false
def gY (r:List Nat) (H:Hp):Hp:=r.map fun i=>match H[i]? with | some b=>zQ (idx r) b | none=> .row (.cells []) 0 .dead
def uy (r:List Nat) (T:List AV) (H:Hp) (k:List AV→Hp→Option R):Option R:=bif rI r T H then k (fj (idx r) T) (gY r H) else none
def pF (keep:List Nat) (T:List AV) (H:Hp) (k:List AV→Hp→Option R):Option R:=uy (reach H 1000 (fy (ll keep T)) []) (ll keep T) H k
def ado (keep:List Nat):List Nat:=(keep.filter fun i=>decide (1000≤i)).map (· - 1000)
def pY (keep:List Nat):bQ→bQ
 | .loop r=> .loop { r with T:=ll (ado keep) r.T }
 | .row c ty st=> .row c ty st
def jf (keep:List Nat) (H:Hp):Hp:=H.map (pY keep)
def Dz (fb:Nat) (r:List Nat):Bool:=(List.range fb).all fun i=>match r[i]? with | some j=>j==i | none=>false
def Me (fb:Nat) (r:List Nat) (T:List AV) (H:Hp) (k:List AV→Hp→Option R):Option R:=bif rI r T H&&Dz fb r then k (fj (idx r) T) (gY r H) else none
def Md (fb:Nat) (keep:List Nat) (T:List AV) (H:Hp) (k:List AV→Hp→Option R):Option R:=Me fb (reach (jf keep H) 1000 (List.range fb ++ fy (ll keep T)) []) (ll keep T) (jf keep H) k
def Fh (x:Cx R) (ops:Array Oper) (G:Bool) (T:List AV) (H:Hp) (k:Cn R):Option R:=
 bif G then bif C5 ops then lS x ops (jL ops) T H [] fun T H I=>bif H5 ops I then k .normal T H else none else none
 else lS x ops (ops.toList.map fun o=>(false,o)) T H [] fun T H _=>k .normal T H
def aey (B:List AV→Hp→Cn R→Option R) (k:Cn R):Cn R:=fun e T H=>
 match e with
 | .normal=>B T H k
 | e=>k e T H
def KI (id:Nat) (k:Cn R):Cn R:=fun e T H=>
 match e with
 | .exit G=>bif G==id then k .normal T H else k (.exit G) T H
 | e=>k e T H
def Lc (c:Operand) (A B:List AV→Hp→Cn R→Option R) (T:List AV) (H:Hp) (k:Cn R):Option R:=
 match aD T c with
 | .val v=>match v with
  | .bool t=>bif t then A (Dt T c true) H k else B (Dt T c false) H k
  | _=>none
 | _=>none
def wN (q:Option (Bool×Ex×List AV×Hp)) (k:Cn R):Option R:=
 match q with
 | some r=>bif r.1 then k r.2.1 r.2.2.1 r.2.2.2 else none
 | none=>none
def Nc (x:Cx R) (p:List Bool) (B:List AV→Hp→Cn R→Option R) (T:List AV) (H:Hp) (k:Cn R):Option R:=
 match x.E.L x.g x.fb p with
 | some s=>bif x.rd then uI B x.u T H k else
   bif x.fb==0 then pF s.1 T H fun T H=>wN (s.2 T H) k
   else bif x.lo==0 then (bif s.1.any (fun i=>decide (1000≤i)) then Md x.fb s.1 T H fun T H=>wN (s.2 T H) k else wN (s.2 (ll s.1 T) H) k) else none
 | none=>uI B x.u T H k
def Fg (i:Nat) (T:List AV) (k:Cn R):Kn R:=fun _ G=>
 match G[i]? with
 | some (.loop r)=>
  bif r.st== .busy then none else
  match r.da with
  | none=>k .normal T (G.set i (.loop { r with st:= .exhausted }))
  | some .ret=>k .ret T (G.set i (.loop { r with st:= .exhausted }))
  | some (.exit n)=>k (.exit n) T (G.set i (.loop { r with st:= .exhausted }))
 | _=>none
def Ff (x:Cx R) (f:Operand) (params:Array Tmp) (p:List Bool) (T:List AV) (H:Hp) (k:Cn R):Option R:=
 bif x.rd then none else
 match funcOf (aD T f) with
 | some q=>bif fB x.P q.1 then
   x.cf x.lo q.1 (q.2.1 ++ [.yld H.length] ++ q.2.2) (H ++ [.loop { T:=T,params:=params,g:=x.g,path:=p,st:= .ready,da:=none }]) (Fg H.length T k)
  else none
 | none=>none
def exec (x:Cx R):Code→List Bool→List AV→Hp→Cn R→Option R
 | .skip,_,T,H,k=>k .normal T H
 | .region _ ops I,_,T,H,k=>Fh x ops I T H k
 | .seq a b,p,T,H,k=>exec x a (false :: p) T H (aey (exec x b (true :: p)) k)
 | .cond c a b,p,T,H,k=>Lc c (exec x a (false :: p)) (exec x b (true :: p)) T H k
 | .block id G,p,T,H,k=>exec x G (false :: p) T H (KI id k)
 | .loop G,p,T,H,k=>Nc x p (exec x G (false :: p)) T H k
 | .exit id,_,T,H,k=>k (.exit id) T H
 | .scope G,p,T,H,k=>exec x G (false :: p) T H k
 | .label _,_,T,H,k=>k .normal T H
 | .ret,_,T,H,k=>k .ret T H
 | .rangeFunc f params _ _,p,T,H,k=>Ff x f params p T H k
 | _,_,_,_,_=>none
def Fl (T:List AV) (H:Hp) (x:ResultVar) (k:AV→Option R):Option R:=
 match x with
 | .tmp t=>k (aD T (.tmp t))
 | .cell x t=>pV P H t (aD T (.tmp x)) k
def wi (T:List AV) (H:Hp):List ResultVar→(List AV→Option R)→Option R
 | [],k=>k []
 | x :: l,k=>Fl P T H x fun v=>wi T H l fun vs=>k (v :: vs)
def r4:List AV→AV
 | [v]=>v
 | vs=> .tup vs
def wq (T:List AV) (ps:List Tmp) (args:List AV):List AV:=(ps.zip args).foldl (fun T p=>T.set p.1 p.2) T
def Fm (G:Func) (k:Kn R):Cn R:=fun e T H=>
 match e with
 | .exit _=>none
 | _=>wi P T H G.results.toList fun vs=>k (r4 vs) H
def yt (i:Nat) (k:Kn R):Cn R:=fun e J G=>
 match G[i]? with
 | some (.loop I)=>match e with
  | .normal=>k (.val (.bool true)) (G.set i (.loop { I with st:= .ready,da:=none }))
  | .ret=>k (.val (.bool false)) (G.set i (.loop { I with st:= .done,da:=some .ret }))
  | .exit n=>k (.val (.bool false)) (G.set i (.loop { I with st:= .done,da:=some (.exit n) }))
 | _=>none
def CC (i:Nat) (B:Nat→List AV→Hp→Cn R→Option R) (k:Kn R):Cn R:=fun e J G=>
 match e with
 | .normal=>match G[i]? with
  | some (.loop I)=>bif I.st== .ready then B G.length J (G.set i (.loop { I with st:= .busy })) (yt i k) else none
  | _=>none
 | _=>none
def yU:Code→Bool
 | .loop _=>true
 | _=>false
def QQ (E:Env) (g:FuncId) (c:Code) (lo:Nat) (args:List AV) (H:Hp):Option (Bool×Ex×List AV×Hp):=
 match E.L g 0 [] with
 | some s=>bif lo==0&& !yU c then s.2 args H else none
 | none=>none
def QR (r:Bool×Ex×List AV×Hp) (k:AV→Hp→Option R):Option R:=bif r.1 then (match r.2.2.1 with | v :: _=>k v r.2.2.2 | []=>none) else none
mutual
def fS (E:Env) (u:Nat):Nat→Nat→FuncId→List AV→Hp→(AV→Hp→Option R)→Option R
 | 0,_,_,_,_,_=>none
 | d+1,lo,g,args,H,k=>
  match P.funcs[g]? with
  | none=>none
  | some G=>
   match G.body with
   | none=>none
   | some c=>
    match QQ E g c lo args H with
    | some r=>QR r k
    | none=>bif decide (lo≤H.length) then exec ⟨P,E,fS E u d,lM E u d,u,H.length,lo,g,false⟩ c [] (args ++ List.replicate (G.ntmps - args.length) (.val undef)) H (Fm P G k) else none
def lM (E:Env) (u:Nat):Nat→Nat→Nat→List AV→Hp→(AV→Hp→Option R)→Option R
 | 0,_,_,_,_,_=>none
 | d+1,lo,i,args,H,k=>
  match H[i]? with
  | some (.loop r)=>
   match aH P r.g r.path with
   | some (.rangeFunc _ _ I J)=>
    bif r.st== .ready&&args.length==r.params.size&&decide (lo≤i) then
     exec ⟨P,E,fS E u d,lM E u d,u,H.length,lo,r.g,true⟩ I (false :: r.path) (wq r.T r.params.toList args) H
      (CC i (fun fb=>exec ⟨P,E,fS E u d,lM E u d,u,fb,lo,r.g,true⟩ J (true :: r.path)) k)
    else none
   | _=>none
  | _=>none
end
def aF (E:Env) (u d:Nat) (g:FuncId) (args:List AV):Option AV:=
 fS P E u d 0 g args [] fun v H=>lh P H 8 v some
end
end Go.V
end
namespace Go.V
open Go Go.RowKit
def bh (h:Hf) (n:Nat) (k:Option bQ):Hf:=fun m=>if m=n then k else h m
def eW (α:Nat→Nat×Nat) (n:Nat) (x:Nat×Nat):Nat→Nat×Nat:=fun m=>if m=n then x else α m
def fE (D:Nat→Prop) (n:Nat):Nat→Prop:=fun m=>D m∨m=n
@[simp] theorem eV (h:Hf) (n:Nat) (k:Option bQ):bh h n k n=k:=if_pos rfl
theorem bS (h:Hf) {n m:Nat} (k:Option bQ) (e:m≠n):bh h n k m=h m:=if_neg e
@[simp] theorem k9 (α:Nat→Nat×Nat) (n:Nat) (x:Nat×Nat):eW α n x n=x:=if_pos rfl
theorem fo (α:Nat→Nat×Nat) {n m:Nat} (x:Nat×Nat) (e:m≠n):eW α n x m=α m:=if_neg e
section
variable {P : Program} {B0 : Nat → Prop} {w0 : World} {D D' : Nat → Prop} {α α' : Nat → Nat × Nat} {h h' : Hf} {w w' : World}
theorem cP.mono {B B':Nat→Prop} {k:bQ} {a:Nat×Nat} (Z:eZ D D' α α' B B' w w') (hb:∀ o,w.heap[a.1]? =some o→(k.isLive=true∨k.jc=true)→w'.heap[a.1]? =some o) (G:cP P α B w D k a):cP P α' B' w' D' k a:=by
 cases k with
 | row c ty st=>
  rcases G with G | ⟨cs,fr,I,J,M,O,U⟩
  ·exact .inl G
  ·by_cases aE:st= .dead
   ·exact .inl aE
   ·refine .inr ⟨cs,fr,hb _ I ?_,J,M,O,aj.mono _ _ Z U⟩
    cases st
    ·exact .inl rfl
    ·exact .inr rfl
    grind
 | loop r=>
  obtain ⟨L,I,J,M,O,U,ab⟩:=G
  exact ⟨L,hb _ I (.inl rfl),J,M,O,U,aj.mono _ _ Z ab⟩
theorem oF (G:Ok P B0 w0 D α h w) (hb:bw w.heap.size w w'):Ok P B0 w0 D α h w'∧bG D D α α (aP D α h) (aP D α h) w w':=by
 have M:bG D D α α (aP D α h) (aP D α h) w w':= ⟨fun _ h=>h,fun _ _=>rfl,fun b o I U=> ⟨U,(hb.block b (Array.getElem?_eq_some_iff.1 I).1).trans I⟩⟩
 have ab:=G.below.size
 have aE:=hb.size
 refine ⟨⟨G.lt,G.below.trans (hb.mono ab),fun b J=> ?_,G.sep,fun i hi=> ?_,G.inj,G.dc,fun i k hi Z=> ?_⟩,M⟩
 ·have I:=(G.cO b J).1
  exact ⟨by omega,fun ds=>by rw [hb.block b I];exact (G.cO b J).2 ds⟩
 ·have:=G.fresh i hi;omega
 ·exact cP.mono (M.keeps B0) (fun o O _=>(hb.block _ (Array.getElem?_eq_some_iff.1 O).1).trans O) (G.cM i k hi Z)
theorem xx (w:World):bw w.heap.size w w.drew:=(bw.refl _ w).drew
theorem Ej (J:Ok P B0 w0 D α h w) {n:Nat} (b2:¬ D n) {o:Obj} (b7:∀ ds,o≠ .deferred ds) {k:bQ} (bx:k.isLive=true) {sz:Nat}
  (b1:∀ D' α' B' w',eZ D D' α α' (Own B0 D α h) B' w w'→w'.heap[w.heap.size]? =some o→cP P α' B' w' D' k (w.heap.size,sz)):
  Ok P B0 w0 (fE D n) (eW α n (w.heap.size,sz)) (bh h n (some k)) (w.alloc o)∧bG D (fE D n) α (eW α n (w.heap.size,sz)) (aP D α h) (aP (fE D n) (eW α n (w.heap.size,sz)) (bh h n (some k))) w (w.alloc o):=by
 have I:∀ i,D i→i≠n:=fun i hi e=>b2 (e ▸ hi)
 have a6:∀ b,aP (fE D n) (eW α n (w.heap.size,sz)) (bh h n (some k)) b↔aP D α h b∨b=w.heap.size:=by
  intro b
  constructor
  ·rintro ⟨i,a7,hi | hi,G,M,U⟩
   ·rw [bS _ _ (I i hi)] at G
    rw [fo _ _ (I i hi)] at U
    exact .inl ⟨i,a7,hi,G,M,U⟩
   simp_all
  ·rintro (⟨i,a7,hi,G,M,U⟩ | rfl)
   ·exact ⟨i,a7, .inl hi,by rw [bS _ _ (I i hi)];exact G,M,by rw [fo _ _ (I i hi)];exact U⟩
   ·exact ⟨n,k, .inr rfl,eV _ _ _,bx,by simp_all⟩
 have a1:bG D (fE D n) α (eW α n (w.heap.size,sz)) (aP D α h) (aP (fE D n) (eW α n (w.heap.size,sz)) (bh h n (some k))) w (w.alloc o):=by
  refine ⟨fun _ h=> .inl h,fun i hi=>fo _ _ (I i hi),fun b b6 G M=> ?_⟩
  have hb:=(Array.getElem?_eq_some_iff.1 G).1
  exact ⟨fun h=>((a6 b).1 h).elim M (fun e=>by omega),(Below.heap_alloc _ _ _ hb).trans G⟩
 have b3:(w.alloc o).heap[w.heap.size]? =some o:=World.alloc_heap_new w o
 have b4:=J.below.size
 refine ⟨⟨?_,J.below.alloc b4 _,fun b Z=> ?_,fun b Z O=> ?_, ?_, ?_, ?_, ?_⟩,a1⟩
 ·rintro i (hi | rfl)
  ·rw [bS _ _ (I i hi)];exact J.lt i hi
  simp_all
 ·have G:=(J.cO b Z).1
  exact ⟨by grind,fun ds=>by rw [Below.heap_alloc _ _ _ G];exact (J.cO b Z).2 ds⟩
 ·rcases (a6 b).1 O with G | G
  ·exact J.sep b Z G
  ·have:=(J.cO b Z).1;omega
 ·rintro i (hi | rfl)
  ·rw [fo _ _ (I i hi),World.size_alloc]
   have:=J.fresh i hi
   omega
  simp_all
 ·rintro i j k1 b5 (hi | rfl) (ab | rfl) G M U b0 aE
  ·rw [bS _ _ (I i hi)] at G
   rw [bS _ _ (I j ab)] at M
   rw [fo _ _ (I i hi),fo _ _ (I j ab)] at aE
   exact J.inj i j k1 b5 hi ab G M U b0 aE
  ·rw [fo _ _ (I i hi),k9] at aE
   have:=J.fresh i hi
   grind
  ·rw [fo _ _ (I j ab),k9] at aE
   have:=J.fresh j ab
   grind
  ·rfl
 ·rintro i k1 (hi | rfl) G M O
  ·rw [bS _ _ (I i hi)] at G
   rw [fo _ _ (I i hi)] at O
   rcases O with O | O
   ·exact J.dc i k1 hi G M (.inl O)
   ·rcases (a6 _).1 O with O | O
    ·exact J.dc i k1 hi G M (.inr O)
    ·have:=J.fresh i hi;omega
  ·rw [eV] at G
   cases G
   cases k with
   | row c ty st=>cases st <;> simp [bQ.isLive,bQ.jc] at bx M
   | loop r=>simp [bQ.jc] at M
 ·rintro i k1 (hi | rfl) G
  ·rw [bS _ _ (I i hi)] at G
   rw [fo _ _ (I i hi)]
   exact cP.mono (a1.keeps B0) (fun b6 bD _=>(Below.heap_alloc _ _ _ (Array.getElem?_eq_some_iff.1 bD).1).trans bD) (J.cM i k1 hi G)
  ·rw [eV] at G
   cases G
   rw [k9]
   exact b1 _ _ _ _ (a1.keeps B0) b3
theorem za (M:Ok P B0 w0 D α h w) {i:Nat} (hi:D i) {k0 k1:bQ} (Z:h i=some k0) (ab:k0.isLive=true) (b2:k1.isLive=true) (ct:w'.heap.size=w.heap.size) (b0:∀ b,b≠(α i).1→w'.heap[b]? =w.heap[b]?)
  (b7:∀ B,B≤(α i).1→bw B w w') (bD:eZ D D α α (Own B0 D α h) (Own B0 D α (bh h i (some k1))) w w'→cP P α (Own B0 D α (bh h i (some k1))) w' D k1 (α i)):
  Ok P B0 w0 D α (bh h i (some k1)) w'∧bG D D α α (aP D α h) (aP D α (bh h i (some k1))) w w':=by
 have b1:∀ b,aP D α (bh h i (some k1)) b↔aP D α h b:=by
  intro b
  constructor
  ·rintro ⟨j,U,I,G,J,O⟩
   by_cases e:j=i
   ·subst e;exact ⟨j,k0,I,Z,ab,O⟩
   ·rw [bS _ _ e] at G;exact ⟨j,U,I,G,J,O⟩
  ·rintro ⟨j,U,I,G,J,O⟩
   by_cases e:j=i
   ·subst e;exact ⟨j,k1,I,eV _ _ _,b2,O⟩
   ·exact ⟨j,U,I,by rw [bS _ _ e];exact G,J,O⟩
 have bx:bG D D α α (aP D α h) (aP D α (bh h i (some k1))) w w':=
  ⟨fun _ h=>h,fun _ _=>rfl,fun b o G J=> ⟨fun h=>J ((b1 b).1 h),(b0 b (fun e=>J (e ▸ ⟨i,k0,hi,Z,ab,rfl⟩))).trans G⟩⟩
 refine ⟨⟨fun j I=> ?_,M.below.trans (b7 _ (M.fresh i hi).1),fun b a6=> ?_,fun b a6 a7=>M.sep b a6 ((b1 b).1 a7),fun j I=>by rw [ct];exact M.fresh j I, ?_, ?_, ?_⟩,bx⟩
 ·by_cases e:j=i
  ·simp_all
  ·rw [bS _ _ e];exact M.lt j I
 ·have G:=M.cO b a6
  refine ⟨by grind,fun ds=> ?_⟩
  rw [b0 b (fun e=>M.sep b a6 (e ▸ ⟨i,k0,hi,Z,ab,rfl⟩))]
  exact G.2 ds
 ·intro a b c0 c4 ha hb G J O b5 b6
  have get:∀ j k,D j→bh h i (some k1) j=some k→k.isLive=true→∃ U,h j=some U∧U.isLive=true:=by
   intro j k I bD c6
   by_cases e:j=i
   ·grind
   ·rw [bS _ _ e] at bD;grind
  obtain ⟨c3,e1,a1⟩:=get a c0 ha G O
  obtain ⟨c5,b3,b4⟩:=get b c4 hb J b5
  exact M.inj a b c3 c5 ha hb e1 b3 a1 b4 b6
 ·intro j k I G J a7
  by_cases e:j=i
  ·subst e
   rw [eV] at G
   cases G
   cases k1 with
   | row c ty st=>cases st <;> simp [bQ.isLive,bQ.jc] at b2 J
   | loop r=>simp [bQ.jc] at J
  ·rw [bS _ _ e] at G
   exact M.dc j k I G J (a7.elim .inl (fun h=> .inr ((b1 _).1 h)))
 ·intro j k I G
  by_cases e:j=i
  ·subst e
   rw [eV] at G
   cases G
   exact bD (bx.keeps B0)
  ·rw [bS _ _ e] at G
   refine cP.mono (bx.keeps B0) (fun o ch aE=>(b0 _ (fun a1=> ?_)).trans ch) (M.cM j k I G)
   rcases aE with aE | aE
   ·exact e (M.inj j i k k0 I hi G Z aE ab a1)
   ·exact M.dc j k I G aE (.inr (a1 ▸ ⟨i,k0,hi,Z,ab,rfl⟩))
theorem NL (J:Ok P B0 w0 D α h w) {i:Nat} (hi:D i) {c c':ao} {ty:TypeId} {st:tb} (ab:h i=some (.row c ty .live)) (a7:st= .dead∨st= .froz∧c'=c):
  Ok P B0 w0 D α (bh h i (some (.row c' ty st))) w∧bG D D α α (aP D α h) (aP D α (bh h i (some (.row c' ty st)))) w w:=by
 have c0:(bQ.row c' ty st).isLive=false:=by rcases a7 with rfl | ⟨rfl,_⟩ <;> rfl
 have a6:∀ b,aP D α (bh h i (some (.row c' ty st))) b→aP D α h b∧b≠(α i).1:=by
  rintro b ⟨j,bx,M,G,I,U⟩
  by_cases e:j=i
  ·simp_all
  ·rw [bS _ _ e] at G
   exact ⟨⟨j,bx,M,G,I,U⟩,fun b2=>e (J.inj j i bx _ M hi G ab I rfl (U.trans b2))⟩
 have a1:bG D D α α (aP D α h) (aP D α (bh h i (some (.row c' ty st)))) w w:= ⟨fun _ h=>h,fun _ _=>rfl,fun b o G I=> ⟨fun h=>I (a6 b h).1,G⟩⟩
 refine ⟨⟨fun j M=> ?_,J.below,J.cO,fun b b5 O=>J.sep b b5 (a6 b O).1,J.fresh, ?_, ?_, ?_⟩,a1⟩
 ·by_cases e:j=i
  ·simp_all
  ·rw [bS _ _ e];exact J.lt j M
 ·intro a b bD b0 ha hb G I U Z aE
  have b1:∀ j k,bh h i (some (.row c' ty st)) j=some k→k.isLive=true→j≠i:=by
   rintro j k ch ct rfl
   simp_all
  have b3:=b1 a bD G U
  have b4:=b1 b b0 I Z
  rw [bS _ _ b3] at G
  rw [bS _ _ b4] at I
  exact J.inj a b bD b0 ha hb G I U Z aE
 ·intro j k M G I O
  by_cases e:j=i
  ·subst e
   rcases O with O | O
   ·exact J.sep _ O ⟨j,_,hi,ab,rfl,rfl⟩
   grind
  ·rw [bS _ _ e] at G
   exact J.dc j k M G I (O.elim .inl (fun h=> .inr (a6 _ h).1))
 ·intro j k M G
  by_cases e:j=i
  ·subst e
   rw [eV] at G
   cases G
   rcases a7 with rfl | ⟨rfl,rfl⟩
   ·exact .inl rfl
   ·rcases J.cM j _ hi ab with b6 | ⟨cs,fr,G,I,U,Z,aE⟩
    ·cases b6
    ·exact .inr ⟨cs,fr,G,I,(fun h=>by cases h),Z,aj.mono _ _ (a1.keeps B0) aE⟩
  ·rw [bS _ _ e] at G
   exact cP.mono (a1.keeps B0) (fun o b7 _=>b7) (J.cM j k M G)
theorem ab3 (O:Ok P B0 w0 D α h w) {i n:Nat} (hi:D i) (c5:¬ D n) {c c':ao} {ty:TypeId} (a1:h i=some (.row c ty .live)):
  Ok P B0 w0 (fE D n) (eW α n (α i)) (bh (bh h i (some (.row c' ty .dead))) n (some (.row c ty .live))) w∧bG D (fE D n) α (eW α n (α i)) (aP D α h) (aP (fE D n) (eW α n (α i)) (bh (bh h i (some (.row c' ty .dead))) n (some (.row c ty .live)))) w w:=by
 have M:∀ j,D j→j≠n:=fun j I e=>c5 (e ▸ I)
 have bx:∀ b,aP (fE D n) (eW α n (α i)) (bh (bh h i (some (.row c' ty .dead))) n (some (.row c ty .live))) b↔aP D α h b:=by
  intro b
  constructor
  ·rintro ⟨j,Z,I | I,G,J,U⟩
   ·rw [bS _ _ (M j I)] at G
    rw [fo _ _ (M j I)] at U
    by_cases e:j=i
    ·subst e;rw [eV] at G;cases G;cases J
    ·rw [bS _ _ e] at G;exact ⟨j,Z,I,G,J,U⟩
   ·subst I;rw [k9] at U;exact ⟨i,_,hi,a1,rfl,U⟩
  ·rintro ⟨j,Z,I,G,J,U⟩
   by_cases e:j=i
   ·subst e;exact ⟨n,_, .inr rfl,eV _ _ _,rfl,by simp_all⟩
   ·exact ⟨j,Z, .inl I,by rw [bS _ _ (M j I),bS _ _ e];exact G,J,by rw [fo _ _ (M j I)];exact U⟩
 have a6:bG D (fE D n) α (eW α n (α i)) (aP D α h) (aP (fE D n) (eW α n (α i)) (bh (bh h i (some (.row c' ty .dead))) n (some (.row c ty .live)))) w w:=
  ⟨fun _ h=> .inl h,fun j I=>fo _ _ (M j I),fun b o G J=> ⟨fun h=>J ((bx b).1 h),G⟩⟩
 have b1:∀ j k,fE D n j→bh (bh h i (some (.row c' ty .dead))) n (some (.row c ty .live)) j=some k→k.isLive=true→∃ ab Z,D ab∧h ab=some Z∧Z.isLive=true∧(α ab).1=(eW α n (α i) j).1∧(ab=i↔j=n)∧(j≠n→ab=j):=by
  rintro j k (I | rfl) G J
  ·rw [bS _ _ (M j I)] at G
   have e:j≠i:=by
    rintro rfl
    rw [eV] at G
    cases G
    cases J
   rw [bS _ _ e] at G
   exact ⟨j,k,I,G,J,by rw [fo _ _ (M j I)], ⟨fun h=>absurd h e,fun h=>absurd h (M j I)⟩,fun _=>rfl⟩
  ·exact ⟨i,_,hi,a1,rfl,by simp_all, ⟨fun _=>rfl,fun _=>rfl⟩,fun h=>absurd rfl h⟩
 refine ⟨⟨?_,O.below,O.cO,fun b c4 aE=>O.sep b c4 ((bx b).1 aE), ?_, ?_, ?_, ?_⟩,a6⟩
 ·rintro j (I | rfl)
  ·rw [bS _ _ (M j I)]
   by_cases e:j=i
   ·simp_all
   ·rw [bS _ _ e];exact O.lt j I
  simp_all
 ·rintro j (I | rfl)
  ·rw [fo _ _ (M j I)];exact O.fresh j I
  ·rw [k9];exact O.fresh i hi
 ·intro a b c6 dx ha hb G J U c0 c3
  obtain ⟨bD,c7,b2,b3,b4,b5,ea,eb⟩:=b1 a c6 ha G U
  obtain ⟨b0,dy,b6,b7,ch,ct,ec,ed⟩:=b1 b dx hb J c0
  have e:bD=b0:=O.inj bD b0 c7 dy b2 b6 b3 b7 b4 ch (b5.trans (c3.trans ct.symm))
  grind
 ·rintro j k (I | rfl) G J aE
  ·rw [bS _ _ (M j I)] at G
   rw [fo _ _ (M j I)] at aE
   by_cases e:j=i
   ·subst e;rw [eV] at G;cases G;cases J
   ·rw [bS _ _ e] at G
    exact O.dc j k I G J (aE.elim .inl (fun h=> .inr ((bx _).1 h)))
  ·rw [eV] at G;cases G;cases J
 ·rintro j k (I | rfl) G
  ·rw [bS _ _ (M j I)] at G
   rw [fo _ _ (M j I)]
   by_cases e:j=i
   ·subst e;rw [eV] at G;cases G;exact .inl rfl
   ·rw [bS _ _ e] at G
    exact cP.mono (a6.keeps B0) (fun o a7 _=>a7) (O.cM j k I G)
  ·rw [eV] at G
   cases G
   rw [k9]
   exact cP.mono (a6.keeps B0) (fun o a7 _=>a7) (O.cM i _ hi a1)
end
end Go.V
namespace Go.V
open Go Go.RowKit
def W (ro:Option Nat):Fence:= { Fence.wide with round:=ro }
section
variable {P : Program} {B0 : Nat → Prop} {w0 : World} {ro : Option Nat} {T : List AV} {o : Oper}
theorem sZ {a:Act} {w w':World} {K:Act→World→Prop} {Q:Exit→Act→World→Prop} {x:Value} (I:∀ c,o.op≠ .defer c) (J:(execOp a.eval o).run P w= .ok (.value x) w') (G:K (a.put o.dst x) w'):o.wpIn (W ro) 0 P a w K Q:=
 ⟨fun _ _=>trivial,by rw [Oper.semAt_eq _ _ _ I,J];exact G⟩
theorem ahu {a:Act} {w w':World} {K:Act→World→Prop} {Q:Exit→Act→World→Prop} (I:∀ c,o.op≠ .defer c) (J:(execOp a.eval o).run P w= .ok .skip w') (G:K (a.put o.dst undef) w'):o.wpIn (W ro) 0 P a w K Q:=
 ⟨fun _ _=>trivial,by rw [Oper.semAt_eq _ _ _ I,J];exact G⟩
def Jr (D:Nat→Prop) (h G:Hf) (n I:Nat) (rd:Bool):Prop:=(∀ i,n≤i→(i < I∨rd=true)→¬ D i)∧(rd=true→∀ i,D i→h i=G i)
def o8 (P:Program) (B0:Nat→Prop) (w0:World) (J:Option Nat) (T:List AV) (o:Oper) (I h:Hf) (n G:Nat) (v:AV) (h':Hf) (rd:Bool):Prop:=
 ∀ (ro:Option Nat) (D:Nat→Prop) (α:Nat→Nat×Nat) (a:Act) (w:World) (K:Act→World→Prop) (Q:Exit→Act→World→Prop),Ok P B0 w0 D α h w→Jr D h I n G rd→(∀ x ∈ o.op.operands,(aD T x).Rel P α (Own B0 D α h) w D (a.eval x))→
  (∀ D' α' w' x,Ok P B0 w0 D' α' h' w'→(∀ i,D' i→D i∨(n≤i∧i < G))→bG D D' α α' (aP D α h) (aP D' α' h') w w'→v.Rel P α' (Own B0 D' α' h') w' D' x→K (a.put o.dst x) w')→o.wpIn (W ro) 0 P a w K Q
def cB (h:Hf) (H G:Hp) (l:List (Nat×Bool)):Hf:=fun m=>if (m,true) ∈ l∨(H.length≤m∧m < G.length) then G[m]? else h m
def mF (P:Program) (B0:Nat→Prop) (w0:World) (ro:Option Nat) (T:List AV) (o:Oper) (H:Hp) (v:AV) (G:Hp) (I:Tch):Prop:=
 H.length≤G.length∧match I with
 | .all=>o8 P B0 w0 ro T o (H[·]?) (H[·]?) H.length G.length v (G[·]?) true
 | .some rd l=>(∀ m,m < H.length→(m,true) ∉ l→G[m]? =H[m]?)∧∀ h:Hf,(∀ m,(∃ b,(m,b) ∈ l)→m < H.length→h m=H[m]?)→o8 P B0 w0 ro T o (H[·]?) h H.length G.length v (cB h H G l) rd
theorem mF.ui {H G:Hp} {v:AV} {J:Tch} (I:mF P B0 w0 ro T o H v G J):o8 P B0 w0 ro T o (H[·]?) (H[·]?) H.length G.length v (G[·]?) true:=by
 obtain ⟨ab,I⟩:=I
 cases J with
 | all=>exact I
 | some rd l=>
  have:=I.2 (H[·]?) (fun _ _ _=>rfl)
  have e:cB (H[·]?) H G l=(G[·]?):=by
   funext m
   unfold cB
   grind
  rw [e] at this
  exact fun ro D α a w K Q O Z U M=>this ro D α a w K Q O ⟨fun i hi _=>Z.1 i hi (.inr rfl),fun _ _ _=>rfl⟩ U M
theorem Mp {H:Hp} {v:AV} {rd:Bool} {l:List (Nat×Bool)} (a6:∀ m,(m,true) ∈ l→m < H.length) (ab:∀ c,o.op≠ .defer c)
  (aE:∀ (h:Hf) (D:Nat→Prop) (α:Nat→Nat×Nat) (a:Act) (w:World),(∀ m b,(m,b) ∈ l→m < H.length→h m=H[m]?)→Ok P B0 w0 D α h w→(∀ x ∈ o.op.operands,(aD T x).Rel P α (Own B0 D α h) w D (a.eval x))→∃ x,(execOp a.eval o).run P w= .ok (.value x) w∧v.Rel P α (Own B0 D α h) w D x):
  mF P B0 w0 ro T o H v H (.some rd l):=by
 refine ⟨Nat.le_refl _,fun _ _ _=>rfl,fun h O ro D α a w K Q J _ M I=> ?_⟩
 obtain ⟨x,G,a1⟩:=aE h D α a w (fun m b Z U=>O m ⟨b,Z⟩ U) J M
 have e:cB h H H l=h:=by
  funext m
  unfold cB
  grind
 refine sZ ab G (I D α w x (by grind) (fun i hi=> .inl hi) ?_ (by grind))
 rw [e]
 exact bG.refl _ _ _ _
theorem fP (v:AV) (m:Nat):(m,true) ∉ tid false v:=by
 cases v <;> simp [tid]
theorem DG {H:Hp} {v:AV} {k:bQ} {rd:Bool} {l:List (Nat×Bool)} (c3:∀ m,(m,true) ∈ l→m < H.length) (b7:∀ c,o.op≠ .defer c) (b5:k.isLive=true)
  (ct:∀ (h:Hf) (D:Nat→Prop) (α:Nat→Nat×Nat) (a:Act) (w:World),(∀ m b,(m,b) ∈ l→m < H.length→h m=H[m]?)→Ok P B0 w0 D α h w→(∀ x ∈ o.op.operands,(aD T x).Rel P α (Own B0 D α h) w D (a.eval x))→
   ∃ (w1:World) (G:Obj) (sz:Nat) (x:Value),bw w.heap.size w w1∧(∀ ds,G≠ .deferred ds)∧(execOp a.eval o).run P w= .ok (.value x) (w1.alloc G)∧
    (∀ D' α' B' w',eZ D D' α α' (Own B0 D α h) B' w w'→w'.heap[w1.heap.size]? =some G→cP P α' B' w' D' k (w1.heap.size,sz))∧
    (∀ D' α' B' w',D' H.length→α' H.length=(w1.heap.size,sz)→v.Rel P α' B' w' D' x)):
  mF P B0 w0 ro T o H v (H ++ [k]) (.some rd l):=by
 refine ⟨by simp,fun m J _=>List.getElem?_append_left J,fun h b3 ro D α a w K Q O ch b1 bD=> ?_⟩
 obtain ⟨w1,G,sz,x,Z,ab,aE,a1,a6⟩:=ct h D α a w (fun m b J b4=>b3 m ⟨b,J⟩ b4) O b1
 have e:cB h H (H ++ [k]) l=bh h H.length (some k):=by
  funext m
  unfold cB bh
  grind
 have b6:¬ D H.length:=ch.1 _ (Nat.le_refl _) (.inl (by simp))
 obtain ⟨b0,U⟩:=oF O Z
 obtain ⟨c0,b2⟩:=Ej b0 b6 (o:=G) ab b5 (sz:=sz) (fun D' α' B' w' I hb=>a1 D' α' B' w' ⟨I.le,I.same,fun b cs ty fr a7 bx=>by
  have M:=(U.keeps B0).row b cs ty fr a7 bx
  exact I.row b cs ty fr M.2 M.1⟩ hb)
 refine sZ b7 aE (bD _ _ _ x (by grind) ?_ ?_ (a6 (fE D H.length) (eW α H.length (w1.heap.size,sz)) _ _ (Or.inr rfl) (k9 _ _ _)))
 ·rintro i (hi | rfl)
  ·exact .inl hi
  grind
 ·rw [e];exact U.trans b2
theorem Mq {H:Hp} {v:AV} {k0 k:bQ} {i:Nat} {rd:Bool} {l:List (Nat×Bool)} (hi:H[i]? =some k0) (b7:∀ m,(m,true) ∈ l↔m=i) (U:∀ c,o.op≠ .defer c) (b3:k0.isLive=true) (b5:k.isLive=true)
  (b6:∀ (h:Hf) (D:Nat→Prop) (α:Nat→Nat×Nat) (a:Act) (w:World),(∀ m b,(m,b) ∈ l→m < H.length→h m=H[m]?)→Ok P B0 w0 D α h w→(∀ x ∈ o.op.operands,(aD T x).Rel P α (Own B0 D α h) w D (a.eval x))→
   ∃ (w':World) (y:Value),D i∧w'.heap.size=w.heap.size∧(∀ b,b≠(α i).1→w'.heap[b]? =w.heap[b]?)∧(∀ B,B≤(α i).1→bw B w w')∧((execOp a.eval o).run P w= .ok .skip w'∧y=undef∨(execOp a.eval o).run P w= .ok (.value y) w')∧
    (∀ B',eZ D D α α (Own B0 D α h) B' w w'→cP P α B' w' D k (α i))∧(∀ α' B' w' D',v.Rel P α' B' w' D' y)):
  mF P B0 w0 ro T o H v (H.set i k) (.some rd l):=by
 have b4:i < H.length:=(List.getElem?_eq_some_iff.1 hi).1
 refine ⟨by simp,fun m O c0=> ?_,fun h M ro D α a w K Q J c3 bD bx=> ?_⟩
 ·grind
 ·obtain ⟨w',y,a7,Z,ab,aE,G,a1,a6⟩:=b6 h D α a w (fun m b O b2=>M m ⟨b,O⟩ b2) J bD
  have e:cB h H (H.set i k) l=bh h i (some k):=by
   funext m
   unfold cB bh
   grind
  have b0:h i=some k0:=(M i ⟨true,(b7 i).2 rfl⟩ b4).trans hi
  obtain ⟨ch,ct⟩:=za J a7 b0 b3 b5 Z ab aE (fun b1=>a1 _ b1)
  have I:=bx D α w' y (by grind) (fun i hi=> .inl hi) (by grind) (a6 _ _ _ _)
  rcases G with ⟨G,rfl⟩ | G
  ·exact ahu U G I
  ·exact sZ U G I
theorem fR (b off k:Nat):(⟨b,off,none⟩:Addr).add k= ⟨b,off+k,none⟩:=by
 unfold Addr.add
 grind
theorem mL {w:World} {b:Nat} {cs:Array Value} {ty:TypeId} {fr:Nat×Nat} (h:w.heap[b]? =some (.cells cs ty fr)) (off:Nat):w.cell? ⟨b,off,none⟩=cs[off]? :=by
 simp [World.cell?,h]
theorem rK {t:TypeId} {d:TypeDesc} (h:P.underlying t=some d):∃ i,P.info? t=some i:=by
 unfold Program.underlying at h
 grind
theorem qu {t:TypeId} {d:TypeDesc} (h:P.underlying t=some d) (w:World):(isAgg t).run P w= .ok (dR P t) w:=by
 unfold isAgg dR
 simp only [Sem.run_bind,run_underlying h,Result.andThen,h]
 cases d <;> rfl
theorem PG {t:TypeId} {w:World} {b off:Nat} {cs:Array Value} {ty:TypeId} {fr:Nat×Nat} (ha:dR P t=true) (hb:w.heap[b]? =some (.cells cs ty fr)) (l:List Value) (I:l.length=P.cellsOf t)
  (h:∀ k y,l[k]? =some y→cs[off+k]? =some y):(loadVar t ⟨b,off,none⟩).run P w= .ok (.agg l.toArray) w:=by
 have J:∃ d,P.underlying t=some d:=by
  unfold dR at ha
  grind
 obtain ⟨d,G⟩:=J
 obtain ⟨i,hi⟩:=rK G
 unfold loadVar
 simp only [Sem.run_bind,qu G,ha,Result.andThen,if_true,run_sizeOf w hi]
 rw [← I,run_loadCells_list w _ l (fun j v M=>by rw [fR,mL hb];grind)]
 rfl
theorem PH {t:TypeId} {w:World} {b off:Nat} {cs:Array Value} {ty:TypeId} {fr:Nat×Nat} {d:TypeDesc} (G:P.underlying t=some d) (ha:dR P t=false) (hb:w.heap[b]? =some (.cells cs ty fr)) {y:Value}
  (h:cs[off]? =some y):(loadVar t ⟨b,off,none⟩).run P w= .ok y w:=by
 unfold loadVar
 simp only [Sem.run_bind,qu G,ha,Result.andThen,Bool.false_eq_true,if_false,run_load,mL hb,h]
end
section
variable {R : Type}
theorem Mh {c:ao} {o:Nat} {k:AV→Option R} {r:R} (h:c.get o k=some r):∃ v,c.a8[o]? =some v∧k v=some r:=by
 cases c with
 | cells l=>
  simp only [ao.get] at h
  cases J:l[o]? with
  | none=>grind
  | some v=>rw [J] at h;exact ⟨v,J,h⟩
 | ints M zs=>
  simp only [ao.get] at h
  cases G:decide (o < zs.length) with
  | false=>grind
  | true=>
   rw [G] at h
   have I:=of_decide_eq_true G
   refine ⟨_, ?_,h⟩
   simp [ao.a8,I]
 | vals vs=>
  simp only [ao.get] at h
  cases G:decide (o < vs.length) with
  | false=>grind
  | true=>
   rw [G] at h
   have I:=of_decide_eq_true G
   refine ⟨_, ?_,h⟩
   simp [ao.a8,I]
theorem Mi {c:ao} :∀ (n o:Nat) {k:List AV→Option R} {r:R},c.DC n o k=some r→∃ vs,vs.length=n∧(∀ (j:Nat) (v:AV),vs[j]? =some v→c.a8[o+j]? =some v)∧k vs=some r
 | 0,o,k,r,h=> ⟨[],rfl,fun j v I=>by simp at I,h⟩
 | n+1,o,k,r,h=>by
  obtain ⟨v,J,G⟩:=Mh h
  obtain ⟨vs,M,O,U⟩:=Mi n (o+1) G
  grind
end
section
variable {P : Program} {B0 : Nat → Prop} {w0 : World} {D : Nat → Prop} {α : Nat → Nat × Nat} {B : Nat → Prop} {h : Hf} {w : World}
theorem zP {v:AV} {y:Value} (J:v.Rel P α B w bo y):v.Rel P α B w D y:=AV.Rel.mono v y ⟨fun _ h=>h.elim,fun _ h=>h.elim,fun b cs ty fr G I=> ⟨I,G⟩⟩ J
theorem yT {R:Nat→Value→Prop} :∀ (n:Nat),(∀ q,q < n→∃ y,R q y)→∃ l:List Value,l.length=n∧∀ (q:Nat) (y:Value),l[q]? =some y→R q y
 | 0,_=> ⟨[],rfl,fun q y G=>by simp at G⟩
 | n+1,h=>by
  obtain ⟨l,I,J⟩:=yT n (fun q G=>h q (by omega))
  obtain ⟨y,M⟩:=h n (by omega)
  refine ⟨l ++ [y],by simp [I],fun q z G=> ?_⟩
  grind
theorem sB {c:ao} {cs:Array Value} (G:aj P α B w c.a8 D (cs.toList.take c.len)) {o:Nat} {v:AV} (I:c.a8[o]? =some v):∃ y,cs[o]? =some y∧v.Rel P α B w D y:=by
 obtain ⟨y,J,M⟩:=aj.get G I
 grind
theorem aea {c:ao} {cs:Array Value} (U:aj P α B w c.a8 D (cs.toList.take c.len)) {vs:List AV} {o:Nat} (Z:∀ (j:Nat) (v:AV),vs[j]? =some v→c.a8[o+j]? =some v):
  ∃ l:List Value,l.length=vs.length∧(∀ (k:Nat) (y:Value),l[k]? =some y→cs[o+k]? =some y)∧aj P α B w vs D l:=by
 obtain ⟨l,G,I⟩:=yT (R:=fun q y=>cs[o+q]? =some y∧∀ v,vs[q]? =some v→v.Rel P α B w D y) vs.length (fun q O=>by
  obtain ⟨y,ab,aE⟩:=sB U (Z q vs[q] (List.getElem?_eq_getElem O))
  grind)
 refine ⟨l,G,fun k y M=>(I k y M).1,aj.oC G (fun i v hi=> ?_)⟩
 have J:i < l.length:=by grind
 exact ⟨l[i],List.getElem?_eq_getElem J,(I i l[i] (List.getElem?_eq_getElem J)).2 v hi⟩
theorem iB (I:Ok P B0 w0 D α h w) {i:Nat} (hi:D i) {c:ao} {ty:TypeId} {st:tb} (G:h i=some (.row c ty st)) (O:(st== .dead)=false):
  ∃ cs fr,w.heap[(α i).1]? =some (.cells cs ty fr)∧cs.size=(α i).2∧(st= .live→∀ j,j < (α i).2→¬ (fr.1≤j∧j < fr.2))∧c.len≤(α i).2∧aj P α (Own B0 D α h) w c.a8 D (cs.toList.take c.len):=by
 rcases I.cM i _ hi G with M | J
 ·grind
 ·exact J
theorem Na {R:Type} {H:Hp} {t:TypeId} {p:AV} {k:AV→Option R} {r:R} (G:pV P H t p k=some r):
  ∃ v,k v=some r∧∀ {B0:Nat→Prop} {w0:World} {D:Nat→Prop} {α:Nat→Nat×Nat} {h:Hf} {w:World} {x:Value},(∀ m b,(m,b) ∈ tid false p→m < H.length→h m=H[m]?)→Ok P B0 w0 D α h w→p.Rel P α (Own B0 D α h) w D x→
   ∃ b off y,x= .pointer (some ⟨b,off,none⟩)∧(loadVar t ⟨b,off,none⟩).run P w= .ok y w∧v.Rel P α (Own B0 D α h) w D y:=by
 cases p with
 | ptr i off=>
  simp only [pV] at G
  split at G
  ·rename_i c ty st b2
   cases b5:(st==tb.dead) with
   | true=>grind
   | false=>
    rw [b5] at G
    simp only [cond] at G
    have a1:=(List.getElem?_eq_some_iff.1 b2).1
    cases ha:dR P t with
    | true=>
     rw [ha] at G
     simp only at G
     obtain ⟨vs,ct,b0,b1⟩:=Mi _ _ G
     refine ⟨_,b1,fun {B0 w0 D α h w x} aE ab I=> ?_⟩
     obtain ⟨hi,I⟩:=I
     have bD:h i=some (.row c ty st):=(aE i false (by simp [tid]) a1).trans b2
     obtain ⟨cs,fr,e1,a7,U,Z,bx⟩:=iB ab hi bD b5
     obtain ⟨l,J,M,c4⟩:=aea bx b0
     exact ⟨_,_,_,I,PG ha e1 l (J.trans ct) M,l.toArray,rfl,by grind⟩
    | false=>
     rw [ha] at G
     simp only at G
     cases a6:(P.underlying t).isSome with
     | false=>grind
     | true=>
      rw [a6] at G
      simp only at G
      obtain ⟨d,b3⟩:=Option.isSome_iff_exists.1 a6
      obtain ⟨v,b0,b1⟩:=Mh G
      refine ⟨_,b1,fun {B0 w0 D α h w x} aE ab I=> ?_⟩
      obtain ⟨hi,I⟩:=I
      have bD:h i=some (.row c ty st):=(aE i false (by simp [tid]) a1).trans b2
      obtain ⟨cs,fr,e1,a7,U,Z,bx⟩:=iB ab hi bD b5
      obtain ⟨y,J,M⟩:=sB bx b0
      exact ⟨_,_,y,I,PH b3 ha e1 J,M⟩
  ·cases G
 | eptr c3 n f j off=>
  simp only [pV] at G
  cases ha:dR P t with
  | true=>
   rw [ha] at G
   simp only [cond] at G
   split at G
   ·rename_i O
    have O:=of_decide_eq_true O
    refine ⟨_,G,fun {B0 w0 D α h w x} aE ab I=> ?_⟩
    obtain ⟨b4,b,o,cs,ty,fr,e1,a7,U,Z⟩:=I
    obtain ⟨l,J,M⟩:=yT (R:=fun q y=>cs[o+j*P.cellsOf c3+(off+q)]? =some y∧(f j (off+q)).Rel P α (Own B0 D α h) w bo y) (P.cellsOf t) (fun q b6=>Z j (off+q) b4 (by omega))
    refine ⟨_,_,_,e1,PG ha U l J (fun k y c5=>by grind),l.toArray,rfl, ?_⟩
    refine aj.oC (by simp [J]) (fun i v hi=> ?_)
    rw [List.getElem?_map] at hi
    cases ch:(List.range (P.cellsOf t))[i]? with
    | none=>grind
    | some q=>
     rw [ch] at hi
     cases hi
     have b6:=List.getElem?_eq_some_iff.1 ch
     obtain ⟨c0,b7⟩:=b6
     rw [List.length_range] at c0
     rw [List.getElem_range] at b7
     subst b7
     have a1:i < l.length:=by omega
     exact ⟨l[i],by simp [a1],zP (M i l[i] (List.getElem?_eq_getElem a1)).2⟩
   ·cases G
  | false=>
   rw [ha] at G
   simp only [cond] at G
   split at G
   ·rename_i a6
    obtain ⟨d,b3⟩:=Option.isSome_iff_exists.1 a6
    split at G
    ·rename_i O
     have O:=of_decide_eq_true O
     refine ⟨_,G,fun {B0 w0 D α h w x} aE ab I=> ?_⟩
     obtain ⟨b4,b,o,cs,ty,fr,e1,a7,U,Z⟩:=I
     obtain ⟨y,J,M⟩:=Z j off b4 O
     exact ⟨_,_,y,e1,PH b3 ha U J,zP M⟩
    ·cases G
   ·cases G
 | _=>simp [pV] at G
end
end Go.V
namespace Go.V
open Go Go.RowKit
def bm {R:Type} (P:Program) (ro:Option Nat) (T:List AV) (o:Oper) (H:Hp) (I:Tch) (lo:Nat) (k:Kn R) (r:R):Prop:=
 ∃ v G,k v G=some r∧(lo≤H.length→∀ m,m < lo→G[m]? =H[m]?)∧∀ B0 w0,mF P B0 w0 ro T o H v G I
section
variable {R : Type} {P : Program} {ro : Option Nat} {T : List AV} {o : Oper} {H : Hp} {lo : Nat} {k : Kn R} {r : R}
theorem dO {v:AV} {l:List (Nat×Bool)} {rd:Bool} (G:k v H=some r) (M:∀ m,(m,true) ∉ l) (I:∀ c,o.op≠ .defer c)
  (J:∀ (B0:Nat→Prop) (w0:World) (h:Hf) (D:Nat→Prop) (α:Nat→Nat×Nat) (a:Act) (w:World),(∀ m b,(m,b) ∈ l→m < H.length→h m=H[m]?)→Ok P B0 w0 D α h w→(∀ x ∈ o.op.operands,(aD T x).Rel P α (Own B0 D α h) w D (a.eval x))→∃ x,(execOp a.eval o).run P w= .ok (.value x) w∧v.Rel P α (Own B0 D α h) w D x):
  bm P ro T o H (.some rd l) lo k r:= ⟨v,H,G,fun _ _ _=>rfl,fun B0 w0=>Mp (fun m h=>absurd h (M m)) I (J B0 w0)⟩
theorem Qq {x:Operand} (G:o.op= .move x∨o.op= .assign x) (J:k (aD T x) H=some r):bm P ro T o H (.some false []) lo k r:=by
 refine dO J (fun m h=>by simp at h) (fun c h=>by grind) (fun B0 w0 h D α a w _ O I=> ?_)
 have M:=I x (by rcases G with G | G <;> rw [G] <;> simp [Op.operands])
 exact ⟨a.eval x,by unfold execOp;rcases G with G | G <;> rw [G] <;> rfl,M⟩
theorem afk {c x y:Operand} (G:o.op= .pick c x y) (h:F6 T c x y H k=some r):bm P ro T o H (.some false []) lo k r:=by
 unfold F6 at h
 split at h
 ·rename_i b hb
  have a1:∀ z,z=(bif b then x else y)→k (aD T z) H=some r→bm P ro T o H (.some false []) lo k r:=by
   intro z aE O
   refine dO O (fun m h=>by simp at h) (fun c h=>by grind) (fun B0 w0 h D α a w _ ab I=> ?_)
   have J:=I c (by rw [G];simp [Op.operands])
   have U:=I x (by rw [G];simp [Op.operands])
   have Z:=I y (by rw [G];simp [Op.operands])
   rw [hb] at J
   have M:a.eval c= .bool b:=J
   refine ⟨a.eval z, ?_, ?_⟩
   ·unfold execOp
    rw [G]
    simp only [M,asBool,Sem.run_bind,Sem.run_pure,Result.andThen]
    grind
   grind
  grind
 ·cases h
theorem afg {t:TypeId} {x:Operand} (G:o.op= .load t x) (h:pV P H t (aD T x) (fun v=>k v H)=some r):bm P ro T o H (.some false (tid false (aD T x))) lo k r:=by
 obtain ⟨v,I,J⟩:=Na h
 refine dO I (fP _) (fun c h=>by grind) (fun B0 w0 a6 D α a w aE U Z=> ?_)
 have a1:=Z x (by rw [G];simp [Op.operands])
 obtain ⟨b,off,y,ab,M,O⟩:=J aE U a1
 refine ⟨y, ?_,O⟩
 unfold execOp
 rw [G]
 simp only [ab,Instr.loadAt,Instr.sureAddr,Sem.run_bind,Sem.run_pure,Result.andThen,M]
theorem zX (b off:Nat) (ty:TypeId) (fr:Nat×Nat):∀ (vs:List Value) (i:Nat) (w:World) (cs:Array Value),w.heap[b]? =some (.cells cs ty fr)→off+i+vs.length≤cs.size→(∀ j,j < cs.size→¬ (fr.1≤j∧j < fr.2))→(∀ v ∈ vs,v.oneCell'=true)→
  ∃ w' G,(storeCells ⟨b,off,none⟩ vs i).run P w= .ok () w'∧w'.heap[b]? =some (.cells G ty fr)∧G.toList=cs.toList.take (off+i) ++ vs ++ cs.toList.drop (off+i+vs.length)∧(∀ k,k≠b→w'.heap[k]? =w.heap[k]?)∧(∀ B,B≤b→bw B w w')∧w'.heap.size=w.heap.size
 | [],i,w,cs,hb,U,M,I=> ⟨w,cs,rfl,hb,by simp,fun _ _=>rfl,fun B _=>bw.refl B w,rfl⟩
 | v :: vs,i,w,cs,hb,U,M,I=>by
  have ab:=I v List.mem_cons_self
  rw [List.length_cons] at U
  have Z:off+i < cs.size:=by omega
  have a1:w.cell? ⟨b,off+i,none⟩=some cs[off+i]:=by rw [mL hb,Array.getElem?_eq_getElem Z]
  have a6:w.frozen? ⟨b,off+i,none⟩=false:=by
   have:=M (off+i) Z
   simp only [World.frozen?,hb]
   grind
  have aE:(w.setCell ⟨b,off+i,none⟩ v).heap[b]? =some (.cells (cs.setIfInBounds (off+i) v) ty fr):=by
   simp only [World.setCell,Array.getElem?_modify,if_true,hb,Option.map_some]
   rfl
  obtain ⟨w',G,k1,bx,bD,b0,b1,b3⟩:=zX b off ty fr vs (i+1) (w.setCell ⟨b,off+i,none⟩ v) (cs.setIfInBounds (off+i) v) aE (by grind) (by grind) (fun u a7=>I u (List.mem_cons_of_mem _ a7))
  refine ⟨w',G, ?_,bx, ?_, ?_, ?_, ?_⟩
  ·rw [storeCells]
   simp only [Sem.run_bind,fR,run_store P w _ v .plain ab,a1,a6,Bool.false_eq_true,if_false,Result.andThen]
   exact k1
  ·rw [bD,Array.toList_setIfInBounds]
   have e1:(cs.toList.set (off+i) v).take (off+(i+1))=cs.toList.take (off+i) ++ [v]:=by
    rw [← Nat.add_assoc,List.take_add_one,List.take_set_of_le (Nat.le_refl _),List.getElem?_set_self (by grind)]
    rfl
   have b2:(cs.toList.set (off+i) v).drop (off+(i+1)+vs.length)=cs.toList.drop (off+i+(v :: vs).length):=by
    rw [List.drop_set_of_lt (by omega),List.length_cons]
    grind
   grind
  ·intro k O
   rw [b0 k O,Below.heap_setCell _ _ _ _ O]
  ·intro B J
   exact (bw.setCell (bw.refl B w) J v).trans (b1 B J)
  simp_all
theorem ab7 {D:Nat→Prop} {α:Nat→Nat×Nat} {B:Nat→Prop} {w:World} {v:AV} {x:Value} (h:bB v=true) (k:v.Rel P α B w D x):x.oneCell'=true:=by
 cases v with
 | val v=>rw [show x=v from k];exact h
 | ptr i off=>obtain ⟨_,rfl⟩:=k;rfl
 | sl fl t i off n=>obtain ⟨_,cap,o,rfl,_⟩:=k;rfl
 | lst fl t n f=>obtain ⟨A,cap,rfl,_⟩:=k;rfl
 | eptr t n f j off=>obtain ⟨_,b,o,cs,ty,fr,rfl,_⟩:=k;rfl
 | clo G a b=>obtain ⟨I,J,rfl,_⟩:=k;rfl
 | yld i=>obtain ⟨_,rfl⟩:=k;rfl
 | _=>cases h
theorem aj.one {D:Nat→Prop} {α:Nat→Nat×Nat} {B:Nat→Prop} {w:World} :∀ {vs:List AV} {I:List Value},vs.all bB=true→aj P α B w vs D I→∀ y ∈ I,y.oneCell'=true
 | [],I,h,k,y,G=>by rw [show I= [] from k] at G;cases G
 | v :: vs,I,h,k,y,G=>by
  obtain ⟨z,zs,rfl,J,M⟩:=k
  rw [List.all_cons,Bool.and_eq_true] at h
  rcases List.mem_cons.1 G with rfl | G
  ·exact ab7 h.1 J
  ·exact aj.one h.2 M y G
theorem FH {α:Type} (l:List α) (o:Nat) (v:α) (h:o+1≤l.length):l.set o v=l.take o ++ [v] ++ l.drop (o+1):=by
 rw [List.set_eq_take_append_cons_drop,if_pos (by omega),List.append_assoc];rfl
theorem ahc {l:List AV} (h:l.all isVal=true):(l.map kZ).map AV.val=l:=by
 rw [List.map_map]
 conv=>rhs;rw [← List.map_id l]
 refine List.map_congr_left fun v G=> ?_
 have:=List.all_eq_true.1 h v G
 cases v <;> simp [isVal] at this
 rfl
theorem acH {J:Type} {c:ao} {o:Nat} {l:List AV} {k:ao→Option J} {r:J} (h:c.put o l k=some r):∃ c',k c'=some r∧c'.len=c.len∧o+l.length≤c.len∧c'.a8=c.a8.take o ++ l ++ c.a8.drop (o+l.length)∧l.all bB=true:=by
 unfold ao.put at h
 cases ha:l.all bB with
 | false=>grind
 | true=>
  rw [ha] at h
  simp only [cond] at h
  split at h
  ·rename_i cO
   split at h
   ·rename_i G
    have G:=of_decide_eq_true G
    split at h
    ·rename_i v
     refine ⟨_,h,by simp [ao.len],G, ?_,rfl⟩
     simp only [ao.a8]
     exact FH _ _ _ G
    ·refine ⟨_,h, ?_,G,rfl,rfl⟩
     simp only [ao.len,List.length_append,List.length_take,List.length_drop]
     omega
   ·cases h
  ·rename_i M zs
   split at h
   ·rename_i O z
    split at h
    ·rename_i I
     have I:=of_decide_eq_true I
     subst I
     split at h
     ·rename_i G
      have G:=of_decide_eq_true G
      refine ⟨_,h,by simp [ao.len],G, ?_,rfl⟩
      simp only [ao.a8,List.map_set]
      exact FH _ _ _ (by grind)
     ·cases h
    ·cases h
   ·cases h
  ·rename_i vs
   split at h
   ·rename_i v
    split at h
    ·rename_i G
     have G:=of_decide_eq_true G
     refine ⟨_,h,by simp [ao.len],G, ?_,rfl⟩
     simp only [ao.a8,List.map_set]
     exact FH _ _ _ (by grind)
    ·cases h
   ·split at h
    ·rename_i G
     rw [Bool.and_eq_true,decide_eq_true_eq] at G
     refine ⟨_,h, ?_,G.2, ?_,rfl⟩
     ·simp only [ao.len,List.length_append,List.length_take,List.length_drop,List.length_map]
      omega
     ·simp only [ao.a8,List.map_append,List.map_take,List.map_drop]
      rw [ahc G.1]
    ·cases h
theorem CQ {D:Nat→Prop} {α:Nat→Nat×Nat} {B:Nat→Prop} {w:World} {v:AV} {x:Value} {l:List AV} (h:tF v=some l) (G:v.Rel P α B w D x):aj P α B w l D x.cells.toList:=by
 cases v with
 | val v=>cases h;rw [show x=v from G];exact aj.vals _
 | ptr i off=>cases h;obtain ⟨J,rfl⟩:=G;exact ⟨_, [],rfl, ⟨J,rfl⟩,rfl⟩
 | sl fl t i off n=>
  cases h
  have I:x.cells= #[x]:=by obtain ⟨_,cap,o,rfl,_⟩:=G;rfl
  rw [I];exact ⟨x, [],rfl,G,rfl⟩
 | lst fl t n f=>
  cases h
  have I:x.cells= #[x]:=by obtain ⟨A,cap,rfl,_⟩:=G;rfl
  rw [I];exact ⟨x, [],rfl,G,rfl⟩
 | eptr t n f j off=>
  cases h
  have I:x.cells= #[x]:=by obtain ⟨_,b,o,cs,ty,fr,rfl,_⟩:=G;rfl
  rw [I];exact ⟨x, [],rfl,G,rfl⟩
 | clo U a b=>
  cases h
  have I:x.cells= #[x]:=by obtain ⟨Z,O,rfl,_⟩:=G;rfl
  rw [I];exact ⟨x, [],rfl,G,rfl⟩
 | yld i=>cases h;obtain ⟨J,rfl⟩:=G;exact ⟨_, [],rfl, ⟨J,rfl⟩,rfl⟩
 | agg cs=>cases h;obtain ⟨O,rfl,M⟩:=G;exact M
 | _=>cases h
theorem QP {β:Type} (X Y:List β) {off n m:Nat} (J:Y.length=n) (h:off+n≤m) (I:m≤X.length):(X.take off ++ Y ++ X.drop (off+n)).take m=(X.take m).take off ++ Y ++ (X.take m).drop (off+n):=by
 have e1:(X.take m).take off=X.take off:=by grind
 have G:(X.take m).drop (off+n)=(X.drop (off+n)).take (m - (off+n)):=List.drop_take
 have l1:(X.take off ++ Y).length=off+n:=by grind
 rw [e1,G,List.take_append,l1,List.take_of_length_le (by omega)]
theorem afp {t:TypeId} {x y:Operand} (O:o.op= .store t x y) (h:Gl P lo H t (aD T x) (aD T y) (fun b0=>k (.val undef) b0)=some r):bm P ro T o H (.some false (tid true (aD T x))) lo k r:=by
 unfold Gl at h
 split at h
 ·rename_i i off I
  cases M:decide (i < lo) with
  | true=>grind
  | false=>
   rw [M] at h
   simp only [cond] at h
   have M:=of_decide_eq_false M
   split at h
   ·rename_i c ty l G c3
    split at h
    ·rename_i a6
     rw [Bool.and_eq_true,beq_iff_eq] at a6
     obtain ⟨ev,ct⟩:=a6
     obtain ⟨ti,ed⟩:=Option.isSome_iff_exists.1 ct
     obtain ⟨c',k1,eh,en,eo,ep⟩:=acH h
     have ea:=(List.getElem?_eq_some_iff.1 G).1
     refine ⟨_,_,k1,fun _ m ez=>List.getElem?_set_ne (by omega),fun B0 w0=>Mq G (fun m=>by rw [I];simp [tid]) (fun c h=>by grind) rfl rfl (fun c5 D α a w c6 c0 a1=> ?_)⟩
     have bx:=a1 x (by rw [O];simp [Op.operands])
     have eg:=a1 y (by rw [O];simp [Op.operands])
     rw [I] at bx
     obtain ⟨hi,c4⟩:=bx
     have ch:c5 i=some (.row c ty .live):=(c6 i true (by rw [I];simp [tid]) ea).trans G
     obtain ⟨cs,fr,e1,et,b1,eu,Z⟩:=iB c0 hi ch rfl
     have J:=CQ c3 eg
     have dx:=aj.len J
     rw [Array.length_toList] at dx
     have dy:=aj.len Z
     rw [List.length_take,Array.length_toList,ao.e8] at dy
     obtain ⟨w',U,b3,b4,aE,b5,b6,b7⟩:=zX (P:=P) (α i).1 off ty fr (a.eval y).cells.toList 0 w cs e1 (by grind) (by grind) (aj.one ep J)
     have eb:(execOp a.eval o).run P w= .ok .skip w':=by
      have ec:¬ (a.eval y).cells.size≠P.cellsOf t:=by omega
      unfold execOp
      rw [O]
      simp only [c4,Instr.storeAt,Instr.sureAddr,storeVar,Sem.run_bind,Sem.run_pure,Result.andThen,run_sizeOf w ed,ec,if_false,b3]
     have eL:U.size=cs.size:=by
      have:=congrArg List.length aE
      grind
     refine ⟨w',undef,hi,b7,b5,b6, .inl ⟨eb,rfl⟩,fun B' a7=> .inr ⟨U,fr,b4,by omega,b1,by omega, ?_⟩,fun _ _ _ _=>rfl⟩
     have ab:=aj.mono _ _ a7 Z
     have c7:=aj.mono _ _ a7 J
     rw [eo,aE,Nat.add_zero]
     have bD:(a.eval y).cells.toList.length=l.length:=by grind
     have b2:(List.take off cs.toList ++ (a.eval y).cells.toList ++ List.drop (off+(a.eval y).cells.toList.length) cs.toList).take c'.len=(cs.toList.take c.len).take off ++ (a.eval y).cells.toList ++ (cs.toList.take c.len).drop (off+l.length):=by
      rw [eh,bD]
      exact QP _ _ bD en (by grind)
     rw [b2]
     exact aj.append (aj.append (aj.take ab _) c7) (aj.drop ab _)
    ·cases h
   ·cases h
 ·cases h
end
end Go.V
namespace Go.V
open Go Go.RowKit
section
variable {R : Type} {P : Program} {ro : Option Nat} {T : List AV} {o : Oper} {H : Hp} {lo : Nat} {k : Kn R} {r : R}
theorem fk {v:AV} (I:k v H=some r) (J:∀ c,o.op≠ .defer c)
  (M:∀ (D:Nat→Prop) (α:Nat→Nat×Nat) (B:Nat→Prop) (a:Act) (w:World),(∀ x ∈ o.op.operands,(aD T x).Rel P α B w D (a.eval x))→∃ x,(execOp a.eval o).run P w= .ok (.value x) w∧v.Rel P α B w D x):
  bm P ro T o H (.some false []) lo k r:=dO I (fun m h=>by simp at h) J (fun B0 w0 h D α a w _ _ G=>M D α _ a w G)
theorem wx {t e:TypeId} (h:kU P t=some e):P.underlying t=some (.slice e):=by
 unfold kU at h
 grind
theorem DR {t:TypeId} {G:IntKind} (h:intKind P t=some G):P.underlying t=some (.int G):=by
 unfold intKind at h
 grind
theorem afa {s f:Nat} {x:Operand} (U:o.op= .fieldAddr s x f) (h:F2 P s f (aD T x) H k=some r):bm P ro T o H (.some false []) lo k r:=by
 unfold F2 at h
 split at h
 ·rename_i v G
  refine fk h (fun c h=>by grind) (fun D α B a w a1=> ?_)
  have I:=a1 x (by rw [U];simp [Op.operands])
  unfold LV at G
  split at G
  ·rename_i b1 bx
   split at G
   ·rename_i fd a7
    cases bD:(P.cellsOf fd.type==0) with
    | true=>grind
    | false=>
     rw [bD] at G
     simp only [cond] at G
     have ab:¬ P.cellsOf fd.type=0:=by grind
     have hi:∃ i,P.info? fd.type=some i:=by
      cases hi:P.info? fd.type with
      | none=>exact absurd (by simp [Program.cellsOf,hi]) ab
      | some i=>grind
     obtain ⟨i,hi⟩:=hi
     have Z:∀ b off,a.eval x= .pointer (some ⟨b,off,none⟩)→(execOp a.eval o).run P w= .ok (.value (.pointer (some ⟨b,off+fd.offset,none⟩))) w:=by
      intro b off a6
      unfold execOp
      rw [U]
      simp only [a6,Instr.fieldAt,Sem.run_bind,run_underlying bx,Result.andThen,a7,Instr.sureAddr,Sem.run_pure,Go.fieldPlace,run_sizeOf w hi,ab,if_false,fR]
     split at G
     ·rename_i i off O
      cases G
      rw [O] at I
      obtain ⟨J,M⟩:=I
      exact ⟨_,Z _ _ M,J,rfl⟩
     ·rename_i b2 n g j off O
      cases G
      rw [O] at I
      obtain ⟨aE,b,b0,cs,ty,fr,J,M⟩:=I
      exact ⟨_,Z _ _ J,aE,b,b0,cs,ty,fr,by grind,M⟩
     ·cases G
   ·cases G
  ·cases G
 ·cases h
theorem NY {t:TypeId} {cs:List AV} {off:Nat} {U:AV→Option R} (h:uV P t cs off U=some r):∃ v,U v=some r∧∀ {D:Nat→Prop} {α:Nat→Nat×Nat} {B:Nat→Prop} {w:World} {G:Array Value},aj P α B w cs D G.toList→∃ y,(part t G off).run P w= .ok y w∧v.Rel P α B w D y:=by
 unfold uV at h
 simp only [Bool.cond_eq_ite] at h
 cases ha:dR P t with
 | true=>
  rw [ha,if_pos rfl] at h
  refine ⟨_,h,fun {D α B w G} J=> ?_⟩
  have M:∃ d,P.underlying t=some d:=by
   unfold dR at ha
   grind
  obtain ⟨d,I⟩:=M
  obtain ⟨i,hi⟩:=rK I
  refine ⟨.agg (G.extract off (off+P.cellsOf t)), ?_,_,rfl, ?_⟩
  ·unfold part
   simp only [Sem.run_bind,qu I,ha,Result.andThen,if_true,run_sizeOf w hi,Sem.run_pure]
  ·have:(G.extract off (off+P.cellsOf t)).toList=(G.toList.drop off).take (P.cellsOf t):=by
    simp_all
   rw [this]
   exact aj.take (aj.drop J _) _
 | false=>
  rw [ha,if_neg (by decide)] at h
  split at h
  ·rename_i M
   obtain ⟨d,I⟩:=Option.isSome_iff_exists.1 M
   split at h
   ·rename_i v ab
    refine ⟨_,h,fun {D α B w G} J=> ?_⟩
    obtain ⟨y,O,Z⟩:=aj.get J ab
    rw [Array.getElem?_toList] at O
    refine ⟨y, ?_,Z⟩
    unfold part
    simp only [Sem.run_bind,qu I,ha,Result.andThen,Bool.false_eq_true,if_false,O,Sem.run_pure]
   ·cases h
  ·cases h
theorem afb {s f:Nat} {x:Operand} (G:o.op= .field s x f) (h:Ds P s f (aD T x) (fun v=>k v H)=some r):bm P ro T o H (.some false []) lo k r:=by
 unfold Ds at h
 split at h
 ·rename_i bx cs a7 aE
  split at h
  ·rename_i fd a1
   obtain ⟨v,J,M⟩:=NY h
   refine fk J (fun c h=>by grind) (fun D α B a w Z=> ?_)
   have I:=Z x (by rw [G];simp [Op.operands])
   rw [aE] at I
   obtain ⟨bD,ab,a6⟩:=I
   obtain ⟨y,O,U⟩:=M a6
   refine ⟨y, ?_,U⟩
   unfold execOp
   rw [G]
   simp only [ab,Instr.field,asAgg,Sem.run_bind,run_underlying a7,Result.andThen,a1,Sem.run_pure,O]
  ·cases h
 ·cases h
theorem afe {t:TypeId} {x O:Operand} (G:o.op= .indexAddr t x O) (h:DL P t (aD T x) (aD T O) (fun v=>k v H)=some r):bm P ro T o H (.some false []) lo k r:=by
 unfold DL at h
 simp only [Bool.cond_eq_ite] at h
 have b2:∀ c,o.op≠ .defer c:=fun c h=>by grind
 split at h
 ·rename_i e fl b3 n f bx z a6 aE ab
  split at h
  ·rename_i b0
   rw [Bool.and_eq_true,beq_iff_eq] at b0
   obtain ⟨rfl,a1⟩:=b0
   split at h
   ·rename_i hb
    rw [Bool.and_eq_true,decide_eq_true_eq,decide_eq_true_eq] at hb
    refine fk h b2 (fun D α B a w M=> ?_)
    have I:=M x (by rw [G];simp [Op.operands])
    have J:=M O (by rw [G];simp [Op.operands])
    rw [aE] at I
    rw [ab] at J
    have U:a.eval O= .int bx z:=J
    obtain ⟨ti,a7⟩:=Option.isSome_iff_exists.1 a1
    obtain ⟨A,cap,Z,ch,_,b1⟩:=I
    rcases b1 with b1 | ⟨b,bD,cs,ty,fr,rfl,b5,b6,b7⟩
    ·omega
    refine ⟨.pointer (some ⟨b,bD+z.toNat*P.cellsOf e,none⟩), ?_,by omega,b,bD,cs,ty,fr,by grind,b5,b6,b7⟩
    unfold execOp
    rw [G]
    simp only [Z,U,Instr.indexAt,asIntOf,Sem.run_bind,Sem.run_pure,Result.andThen,run_underlying a6,hb,and_self,if_true,run_sizeOf w a7,fR]
   ·cases h
  ·cases h
 ·rename_i e fl b3 i off n bx z a6 aE ab
  split at h
  ·rename_i b0
   rw [Bool.and_eq_true,beq_iff_eq] at b0
   obtain ⟨rfl,a1⟩:=b0
   split at h
   ·rename_i hb
    rw [Bool.and_eq_true,decide_eq_true_eq,decide_eq_true_eq] at hb
    refine fk h b2 (fun D α B a w M=> ?_)
    have I:=M x (by rw [G];simp [Op.operands])
    have J:=M O (by rw [G];simp [Op.operands])
    rw [aE] at I
    rw [ab] at J
    have U:a.eval O= .int bx z:=J
    obtain ⟨ti,a7⟩:=Option.isSome_iff_exists.1 a1
    obtain ⟨hi,cap,bD,Z,ch,_,b1⟩:=I
    rcases b1 with b1 | ⟨rfl,_⟩
    ·omega
    refine ⟨.pointer (some ⟨(α i).1,bD+z.toNat*P.cellsOf e,none⟩), ?_,hi,rfl⟩
    unfold execOp
    rw [G]
    simp only [Z,U,Instr.indexAt,asIntOf,Sem.run_bind,Sem.run_pure,Result.andThen,run_underlying a6,hb,and_self,if_true,run_sizeOf w a7,fR]
   ·cases h
  ·cases h
 ·rename_i n e i off bx z a6 aE ab
  split at h
  ·rename_i a1
   split at h
   ·rename_i hb
    rw [Bool.and_eq_true,decide_eq_true_eq,decide_eq_true_eq] at hb
    refine fk h b2 (fun D α B a w M=> ?_)
    have I:=M x (by rw [G];simp [Op.operands])
    have J:=M O (by rw [G];simp [Op.operands])
    rw [aE] at I
    rw [ab] at J
    have U:a.eval O= .int bx z:=J
    obtain ⟨ti,a7⟩:=Option.isSome_iff_exists.1 a1
    obtain ⟨hi,Z⟩:=I
    refine ⟨.pointer (some ⟨(α i).1,off+z.toNat*P.cellsOf e,none⟩), ?_,hi,rfl⟩
    unfold execOp
    rw [G]
    simp only [Z,U,Instr.indexAt,Instr.sureAddr,asIntOf,Sem.run_bind,Sem.run_pure,Result.andThen,run_underlying a6,hb,and_self,if_true,run_sizeOf w a7,fR]
   ·cases h
  ·cases h
 ·rename_i n e b3 m f j off bx z a6 aE ab
  split at h
  ·rename_i a1
   split at h
   ·rename_i hb
    rw [Bool.and_eq_true,decide_eq_true_eq,decide_eq_true_eq] at hb
    refine fk h b2 (fun D α B a w M=> ?_)
    have I:=M x (by rw [G];simp [Op.operands])
    have J:=M O (by rw [G];simp [Op.operands])
    rw [aE] at I
    rw [ab] at J
    have U:a.eval O= .int bx z:=J
    obtain ⟨ti,a7⟩:=Option.isSome_iff_exists.1 a1
    obtain ⟨b4,b,bD,cs,ty,fr,Z,ct⟩:=I
    refine ⟨.pointer (some ⟨b,bD+j*P.cellsOf b3+off+z.toNat*P.cellsOf e,none⟩), ?_,b4,b,bD,cs,ty,fr,by grind,ct⟩
    unfold execOp
    rw [G]
    simp only [Z,U,Instr.indexAt,Instr.sureAddr,asIntOf,Sem.run_bind,Sem.run_pure,Result.andThen,run_underlying a6,hb,and_self,if_true,run_sizeOf w a7,fR]
   ·cases h
  ·cases h
 ·cases h
theorem WW {G:IntKind} {v:AV} {z:Int} (h:C3 G v=some z):v= .val (.int G z):=by
 unfold C3 at h
 grind
theorem rr {G:IntKind} :∀ {l:List AV} {zs:List Int},mP G l=some zs→l=zs.map fun z=> .val (.int G z)
 | [],zs,h=>by cases h;rfl
 | v :: l,zs,h=>by
  simp only [mP] at h
  split at h
  ·rename_i z I
   split at h
   ·rename_i M J
    cases h
    rw [List.map_cons,← rr J,WW I]
   ·cases h
  ·cases h
theorem Ur (s:ByteArray) (i:Nat) (h:i < s.size):∃ b,s[i]? =some b∧(b.toNat:Int)=aR s i:=by
 have hi:i < s.data.toList.length:=by simp_all
 refine ⟨s[i],Go.ByteArray.getElem?_lt' s i h, ?_⟩
 unfold aR
 rw [List.getD_eq_getElem?_getD,List.getElem?_eq_getElem hi]
 rfl
theorem afd {t:TypeId} {x M:Operand} (J:o.op= .index t x M) (h:DK P t (aD T x) (aD T M) (fun v=>k v H)=some r):bm P ro T o H (.some false []) lo k r:=by
 unfold DK at h
 simp only [Bool.cond_eq_ite] at h
 have b4:∀ c,o.op≠ .defer c:=fun c h=>by grind
 split at h
 ·rename_i s b2 z b1 bD bx
  split at h
  ·rename_i hb
   rw [Bool.and_eq_true,decide_eq_true_eq,decide_eq_true_eq] at hb
   refine fk h b4 (fun D α B a w O=> ?_)
   have G:=O x (by rw [J];simp [Op.operands])
   have I:=O M (by rw [J];simp [Op.operands])
   rw [bD] at G
   rw [bx] at I
   have a1:a.eval M= .int b2 z:=I
   have b5:a.eval x= .string s:=G
   obtain ⟨b,b6,b7⟩:=Ur s z.toNat (by omega)
   refine ⟨.int .u8 (aR s z.toNat), ?_,rfl⟩
   unfold execOp
   rw [J]
   simp only [b5,a1,Instr.index,asIntOf,Sem.run_bind,Sem.run_pure,Result.andThen,run_underlying b1,hb.1,if_true,b6,b7]
  ·cases h
 ·rename_i n e cs b2 z b1 bD bx
  split at h
  ·rename_i hb
   rw [Bool.and_eq_true,decide_eq_true_eq,decide_eq_true_eq] at hb
   have go:∀ {v:AV},k v H=some r→(∀ {D:Nat→Prop} {α:Nat→Nat×Nat} {B:Nat→Prop} {w:World} {aE:Array Value},aj P α B w cs D aE.toList→∃ y,(part e aE (z.toNat*P.cellsOf e)).run P w= .ok y w∧v.Rel P α B w D y)→(∃ ti,P.info? e=some ti)→bm P ro T o H (.some false []) lo k r:=by
    intro v c0 c5 U
    refine fk c0 b4 (fun D α B a w O=> ?_)
    have G:=O x (by rw [J];simp [Op.operands])
    have I:=O M (by rw [J];simp [Op.operands])
    rw [bD] at G
    rw [bx] at I
    have a1:a.eval M= .int b2 z:=I
    obtain ⟨aE,ch,b0⟩:=G
    obtain ⟨y,ab,a6⟩:=c5 b0
    obtain ⟨ti,U⟩:=U
    refine ⟨y, ?_,a6⟩
    unfold execOp
    rw [J]
    simp only [ch,a1,Instr.index,asIntOf,Sem.run_bind,Sem.run_pure,Result.andThen,run_underlying b1,hb,and_self,if_true,run_sizeOf w U,ab]
   split at h
   ·rename_i c7 c3
    split at h
    ·rename_i zs c6
     split at h
     ·rename_i b3
      rw [Bool.and_eq_true,beq_iff_eq,beq_iff_eq] at b3
      have Z:=DR c3
      obtain ⟨ti,U⟩:=rK Z
      refine go h (fun {D α B w aE} b0=> ?_) ⟨ti,U⟩
      have dx:=rr c6
      have dy:z.toNat < zs.length:=by omega
      have ct:cs[z.toNat]? =some (.val (.int c7 (zs.getD z.toNat 0))):=by
       grind
      obtain ⟨y,ab,a6⟩:=aj.get b0 ct
      rw [Array.getElem?_toList] at ab
      refine ⟨y, ?_,a6⟩
      have c4:dR P e=false:=by unfold dR;rw [Z]
      unfold part
      rw [b3.1,Nat.mul_one]
      simp only [Sem.run_bind,qu Z,c4,Result.andThen,Bool.false_eq_true,if_false,ab,Sem.run_pure]
     ·cases h
    ·cases h
   ·obtain ⟨v,G,I⟩:=NY h
    refine go G I ?_
    unfold uV at h
    simp only [Bool.cond_eq_ite] at h
    cases ha:dR P e with
    | true=>
     unfold dR at ha
     cases a7:P.underlying e with
     | none=>grind
     | some d=>exact rK a7
    | false=>
     rw [ha,if_neg (by decide)] at h
     split at h
     ·rename_i Z
      obtain ⟨d,a7⟩:=Option.isSome_iff_exists.1 Z
      exact rK a7
     ·cases h
  ·cases h
 ·cases h
theorem afj {x:Operand} (U:o.op= .nilCheck x) (h:F4 (aD T x) H k=some r):bm P ro T o H (.some false []) lo k r:=by
 unfold F4 at h
 have a1:∀ c,o.op≠ .defer c:=fun c h=>by grind
 have go:∀ {v:AV},aD T x=v→k v H=some r→(∀ {D:Nat→Prop} {α:Nat→Nat×Nat} {B:Nat→Prop} {w:World} {y:Value},v.Rel P α B w D y→(∃ a,y= .pointer (some a))∨(∃ g M O,y= .func (.func g) M O)∨(∃ l,y= .func (.yield l) #[] #[]))→bm P ro T o H (.some false []) lo k r:=by
  intro v G ab aE
  refine fk ab a1 (fun D α B a w Z=> ?_)
  have J:=Z x (by rw [U];simp [Op.operands])
  rw [G] at J
  refine ⟨a.eval x, ?_,J⟩
  unfold execOp
  rw [U]
  rcases aE J with ⟨b,e⟩ | ⟨g,M,O,e⟩ | ⟨l,e⟩ <;> simp only [e,Sem.run_pure]
 split at h
 ·rename_i i off G;exact go G h (fun I=> .inl ⟨_,I.2⟩)
 ·rename_i t n f j off G;exact go G h (fun I=>by obtain ⟨_,b,a6,cs,ty,fr,e,_⟩:=I;grind)
 ·rename_i g a b G;exact go G h (fun I=>by obtain ⟨M,O,e,_⟩:=I;grind)
 ·rename_i i G;exact go G h (fun I=> .inr (.inr ⟨_,I.2⟩))
 ·rename_i g a b G;exact go G h (fun I=> .inr (.inl ⟨g,_,_,I⟩))
 ·cases h
theorem zO {D:Nat→Prop} {α:Nat→Nat×Nat} {B:Nat→Prop} {w:World} {a:Act} :∀ (l:List Operand),(∀ x ∈ l,(aD T x).Rel P α B w D (a.eval x))→aj P α B w (l.map (aD T)) D (l.map a.eval)
 | [],_=>rfl
 | x :: l,h=> ⟨_,_,rfl,h x List.mem_cons_self,zO l (fun y G=>h y (List.mem_cons_of_mem _ G))⟩
theorem afi {G:Fn} {x y:Array Operand} (I:o.op= .makeFunc G x y) (h:k (.clo G (x.toList.map (aD T)) (y.toList.map (aD T))) H=some r):bm P ro T o H (.some false []) lo k r:=by
 refine fk h (fun c h=>by grind) (fun D α B a w J=> ?_)
 refine ⟨.func G (x.map a.eval) (y.map a.eval), ?_,_,_,rfl, ?_, ?_⟩
 ·unfold execOp;rw [I];rfl
 ·rw [Array.toList_map];exact zO _ (fun z M=>J z (by rw [I];simp only [Op.operands,Array.mem_append];grind))
 ·rw [Array.toList_map];exact zO _ (fun z M=>J z (by rw [I];simp only [Op.operands,Array.mem_append];grind))
theorem ae9 {x:Operand} {M:Nat} (J:o.op= .extract x M) (h:F1 (aD T x) M H k=some r):bm P ro T o H (.some false []) lo k r:=by
 unfold F1 at h
 split at h
 ·rename_i vs ab
  split at h
  ·rename_i v a1
   refine fk h (fun c h=>by grind) (fun D α B a w U=> ?_)
   have G:=U x (by rw [J];simp [Op.operands])
   rw [ab] at G
   obtain ⟨a6,Z,aE⟩:=G
   obtain ⟨y,I,O⟩:=aj.get aE a1
   rw [Array.getElem?_toList] at I
   refine ⟨y, ?_,O⟩
   unfold execOp
   rw [J]
   simp only [Z,Instr.extract,I,Sem.run_bind,Sem.run_pure,Result.andThen]
  ·cases h
 ·cases h
theorem acz {v:AV} (h:Es P T o=some v):∀ {D:Nat→Prop} {α:Nat→Nat×Nat} {B:Nat→Prop} {a:Act} {w:World},(∀ x ∈ o.op.operands,(aD T x).Rel P α B w D (a.eval x))→∃ x,(execOp a.eval o).run P w= .ok (.value x) w∧v.Rel P α B w D x:=by
 unfold Es at h
 cases G:o.op.operands.toList.all (fun x=>(toVal (aD T x)).isSome) with
 | false=>grind
 | true=>
  rw [G] at h
  simp only [cond] at h
  rw [List.all_eq_true] at G
  split at h
  ·cases h
  ·rename_i Z
   split at h
   ·rename_i u ab
    cases h
    intro D α B a w U
    refine ⟨u, ?_,toAV_rel u⟩
    rw [execOp_congr (ρ:=a.eval) (ρ':=fun x=>(toVal (aD T x)).getD undef) o (fun cs b=>Z cs b) (fun x I=> ?_)]
    ·exact acD P _ ab w
    ·have M:=U x I
     have O:=G x (Array.mem_toList_iff.2 I)
     obtain ⟨z,J⟩:=Option.isSome_iff_exists.1 O
     rw [J]
     exact toVal_rel J M
   ·cases h
theorem qH (J:∀ c,o.op≠ .defer c) (h:nI P T o H k=some r):bm P ro T o H (.some false []) lo k r:=by
 unfold nI at h
 split at h
 ·rename_i v I
  exact fk h J (fun D α B a w G=>acz I G)
 ·cases h
theorem aff {c:Call} (aE:o.op= .call c) (ab:c.callee= .builtin .len) (h:F3 P T o c.args.toList c.argTypes.toList H k=some r):bm P ro T o H (.some false []) lo k r:=by
 have a7:∀ c,o.op≠ .defer c:=fun c h=>by grind
 unfold F3 at h
 split at h
 ·rename_i x t Z a1
  split at h
  ·rename_i v G
   refine fk h a7 (fun D α B a w b0=> ?_)
   have b5:x ∈ c.args:=Array.mem_toList_iff.1 (by grind)
   have M:=b0 x (by rw [aE];simp only [Op.operands,Call.operands,Array.mem_append];grind)
   have a6:∀ (A:Option Addr) (n cap:Nat) (O:TypeId),kU P t=some O→a.eval x= .slice A n cap→(execOp a.eval o).run P w= .ok (.value (.int .i64 n)) w:=by
    intro A n cap O J I
    have b2:=wx J
    obtain ⟨b4,bD,bx⟩:=c
    simp only at ab Z a1
    subst ab
    have b1:bD= #[x]:=Array.ext' Z
    have b3:bx= #[t]:=Array.ext' a1
    subst b1 b3
    unfold execOp
    rw [aE]
    simp [resolve,invoke,builtin,Builtin.len_,I,run_underlying b2,Sem.run_bind,Result.andThen,goInt]
   unfold MV at G
   simp only [Bool.cond_eq_ite] at G
   split at G
   ·rename_i fl O i off n U
    split at G
    ·rename_i J
     cases G
     rw [U] at M
     obtain ⟨_,cap,b6,I,_⟩:=M
     exact ⟨_,a6 _ _ _ _ (by simpa using J) I,rfl⟩
    ·cases G
   ·rename_i fl O n f U
    split at G
    ·rename_i J
     cases G
     rw [U] at M
     obtain ⟨A,cap,I,_⟩:=M
     exact ⟨_,a6 _ _ _ _ (by simpa using J) I,rfl⟩
    ·cases G
   ·cases G
  ·exact qH a7 h
 ·cases h
end
end Go.V
namespace Go.V
open Go Go.RowKit
section
variable {R : Type} {P : Program} {ro : Option Nat} {T : List AV} {o : Oper} {H : Hp} {lo : Nat} {k : Kn R} {r : R}
theorem nE {w:World} {G:IntKind} {z:Int} {y:Nat} {code:BoundsCode} (I:0≤z) (J:z≤y):(Instr.sliceBound (.int G z) y code).run P w= .ok z.toNat w:=by rw [run_sliceBound _ G z y code I J]
def Bd (x:Option AV) (d l:Nat):Prop:=(x=none∧l=d)∨∃ G z,x=some (.val (.int G z))∧0≤z∧l=z.toNat
theorem nW {x:Option AV} {q:Option Int} (h:xA x=some q):(x=none∧q=none)∨∃ G z,x=some (.val (.int G z))∧q=some z:=by
 unfold xA at h
 grind
theorem pq {M:Type} {n:Nat} {low hi:Option AV} {k:Nat→Nat→Option M} {r:M} (h:mK n low hi k=some r):∃ l h',k l h'=some r∧l≤h'∧h'≤n∧Bd low 0 l∧Bd hi n h':=by
 unfold mK at h
 simp only [Bool.cond_eq_ite] at h
 split at h
 ·rename_i J I
  rcases nW J with ⟨rfl,_⟩ | ⟨_,_,_,e⟩
  ·rcases nW I with ⟨rfl,_⟩ | ⟨_,_,_,e⟩
   ·exact ⟨0,n,h,Nat.zero_le _,Nat.le_refl _, .inl ⟨rfl,rfl⟩, .inl ⟨rfl,rfl⟩⟩
   ·cases e
  ·cases e
 ·rename_i zh J I
  split at h
  ·rename_i G
   rw [Bool.and_eq_true,decide_eq_true_eq,decide_eq_true_eq] at G
   rcases nW J with ⟨rfl,_⟩ | ⟨_,_,_,e⟩
   ·rcases nW I with ⟨_,e⟩ | ⟨O,z,rfl,e⟩
    ·cases e
    ·cases e;exact ⟨0,_,h,Nat.zero_le _,by omega, .inl ⟨rfl,rfl⟩, .inr ⟨_,_,rfl,G.1,rfl⟩⟩
   ·cases e
  ·cases h
 ·rename_i U J I
  split at h
  ·rename_i G
   rw [Bool.and_eq_true,decide_eq_true_eq,decide_eq_true_eq] at G
   rcases nW J with ⟨_,e⟩ | ⟨O,z,rfl,e⟩
   ·cases e
   ·cases e
    rcases nW I with ⟨rfl,_⟩ | ⟨_,_,_,e⟩
    ·exact ⟨_,n,h,by omega,Nat.le_refl _, .inr ⟨_,_,rfl,G.1,rfl⟩, .inl ⟨rfl,rfl⟩⟩
    ·cases e
  ·cases h
 ·rename_i U zh J I
  split at h
  ·rename_i G
   rw [Bool.and_eq_true,Bool.and_eq_true,decide_eq_true_eq,decide_eq_true_eq,decide_eq_true_eq] at G
   rcases nW J with ⟨_,e⟩ | ⟨O,z,rfl,e⟩
   ·cases e
   ·cases e
    rcases nW I with ⟨_,e⟩ | ⟨Z,ab,rfl,e⟩
    ·cases e
    ·cases e;exact ⟨_,_,h,by omega,by omega, .inr ⟨_,_,rfl,G.1.1,rfl⟩, .inr ⟨_,_,rfl,by omega,rfl⟩⟩
  ·cases h
 ·cases h
def wS (x:Option Value) (d l:Nat):Prop:=(x=none∧l=d)∨∃ G z,x=some (.int G z)∧0≤z∧l=z.toNat
theorem Bd.val {D : Nat → Prop} {α : Nat → Nat × Nat} {B : Nat → Prop} {w : World} {a : Act} {x : Option Operand} {d l : Nat} (h : Bd (x.map (aD T)) d l) (M : ∀ y, x = some y → (aD T y).Rel P α B w D (a.eval y)) : wS (x.map a.eval) d l := by
  cases x with
  | none => rcases h with ⟨_, h⟩ | ⟨G, z, e, _⟩
            · exact .inl ⟨rfl, h⟩
            · cases e
  | some y =>
    rcases h with ⟨e, _⟩ | ⟨G, z, e, I, J⟩
    · cases e
    · simp only [Option.map_some, Option.some.injEq] at e
      have := M y rfl
      rw [e] at this
      exact .inr ⟨G, z, by simp only [Option.map_some]; rw [show a.eval y = .int G z from this], I, J⟩
theorem wm {w:World} {b:Bool} {len cap l h:Nat} {low hi:Option Value} (O:wS low 0 l) (M:wS hi len h) (U:l≤h) (Z:h≤cap):(Instr.sliceBounds b len cap low hi none).run P w= .ok (l,h,cap) w:=by
 unfold Instr.sliceBounds
 rcases M with ⟨rfl,rfl⟩ | ⟨kh,zh,rfl,G,rfl⟩ <;> rcases O with ⟨rfl,rfl⟩ | ⟨ab,J,rfl,I,rfl⟩
 ·simp_all
 ·simp only [Sem.run_bind,Sem.run_pure,Result.andThen,Option.isSome_none,Bool.false_eq_true,if_false,nE I (show J≤(h:Int) by omega)]
 ·simp only [Sem.run_bind,Sem.run_pure,Result.andThen,nE G (show zh≤(cap:Int) by omega)]
 ·simp only [Sem.run_bind,Sem.run_pure,Result.andThen,Option.isSome_none,Bool.false_eq_true,if_false,nE G (show zh≤(cap:Int) by omega),nE I (show J≤((zh.toNat:Nat):Int) by omega)]
theorem PD {w:World} {b:Bool} {len cap l h m:Nat} {low hi J:Option Value} (Z:wS low 0 l) {kh:IntKind} {zh:Int} (O:hi=some (.int kh zh)) (G:0≤zh) (U:h=zh.toNat) {km:IntKind} {zm:Int} (ab:J=some (.int km zm)) (I:0≤zm) (aE:m=zm.toNat) (a6:l≤h) (a7:h≤m) (bx:m≤cap):
  (Instr.sliceBounds b len cap low hi J).run P w= .ok (l,h,m) w:=by
 subst O ab U aE
 unfold Instr.sliceBounds
 rcases Z with ⟨rfl,rfl⟩ | ⟨bD,a1,rfl,M,rfl⟩
 ·simp only [Sem.run_bind,Sem.run_pure,Result.andThen,nE I (show zm≤(cap:Int) by omega),nE G (show zh≤((zm.toNat:Nat):Int) by omega)]
 ·simp only [Sem.run_bind,Sem.run_pure,Result.andThen,nE I (show zm≤(cap:Int) by omega),nE G (show zh≤((zm.toNat:Nat):Int) by omega),nE M (show a1≤((zh.toNat:Nat):Int) by omega)]
theorem afz (s:ByteArray) (l h:Nat):s.extract l h=eT s l h:=by
 obtain ⟨⟨x⟩⟩:=s
 rw [Go.ByteArray.extract_mk];rfl
theorem FN {D:Nat→Prop} {α:Nat→Nat×Nat} {B:Nat→Prop} {w:World} {fl J:Bool} {t:TypeId} {i off len:Nat} {x:Value} {A:Option Addr} {cap:Nat} (Z:(AV.sl fl t i off len).Rel P α B w D x) (U:x= .slice A len cap) {l h m:Nat} (aE:l≤h) (a1:h≤m) (O:m≤cap) (bx:J=true→m=h):
  (AV.sl J t i (off+l*P.cellsOf t) (h - l)).Rel P α B w D (.slice (if m=l then A else A.map (·.add (l*P.cellsOf t))) (h - l) (m - l)):=by
 obtain ⟨hi,ab,M,e,a6,a7,I⟩:=Z
 rw [U] at e
 cases e
 refine ⟨hi,m - l,if m=l then M else M+l*P.cellsOf t, ?_,by omega,fun e=>by grind, ?_⟩
 ·by_cases G:m=l
  ·grind
  ·rw [if_neg G,if_neg G,Option.map_some,fR]
 ·by_cases G:m=l
  ·left;omega
  ·right
   rw [if_neg G]
   rcases I with I | ⟨rfl,I⟩
   ·omega
   ·refine ⟨rfl, ?_⟩
    have:l*P.cellsOf t+(m - l)*P.cellsOf t=m*P.cellsOf t:=by rw [← Nat.add_mul];grind
    have:m*P.cellsOf t≤cap*P.cellsOf t:=Nat.mul_le_mul_right _ O
    omega
theorem Nf {D:Nat→Prop} {α:Nat→Nat×Nat} {B:Nat→Prop} {w:World} {fl G:Bool} {t:TypeId} {n:Nat} {f:Nat→Nat→AV} {x:Value} {A:Option Addr} {cap:Nat} (ab:(AV.lst fl t n f).Rel P α B w D x) (U:x= .slice A n cap) {l h m:Nat} (bD:h≤n) (b0:l≤h) (b1:h≤m) (b2:m≤cap) (b5:G=true→m=h):
  (AV.lst G t (h - l) (fun j q=>f (j+l) q)).Rel P α B w D (.slice (if m=l then A else A.map (·.add (l*P.cellsOf t))) (h - l) (m - l)):=by
 obtain ⟨a1,a6,e,b3,b4,I⟩:=ab
 rw [U] at e
 cases e
 refine ⟨_,_,rfl,by omega,fun e=>by grind, ?_⟩
 by_cases b7:h=l
 ·left;omega
 ·right
  rw [if_neg (show ¬ m=l by omega)]
  rcases I with I | ⟨b,aE,cs,ty,fr,rfl,J,M,O⟩
  ·omega
  ·refine ⟨b,aE+l*P.cellsOf t,cs,ty,fr,by rw [Option.map_some,fR],J,M,fun j q b6 Z=> ?_⟩
   obtain ⟨y,a7,bx⟩:=O (j+l) q (by omega) Z
   grind
theorem wo {w:World} {t e:TypeId} (J:P.underlying t=some (.slice e)) {i:TypeInfo} (hi:P.info? e=some i) {A:Option Addr} {len cap l h m:Nat} {low G I:Option Value} (hb:(Instr.sliceBounds true len cap low G I).run P w= .ok (l,h,m) w):
  (Instr.sliceAt t (.slice A len cap) low G I).run P w= .ok (.slice (if m=l then A else A.map (·.add (l*P.cellsOf e))) (h - l) (m - l)) w:=by
 unfold Instr.sliceAt
 simp only [Sem.run_bind,run_underlying J,Result.andThen,Instr.slice,hb,run_sizeOf w hi,Sem.run_pure]
theorem afn {t:TypeId} {x:Operand} {low hi b0:Option Operand} (c7:o.op= .slice t x low hi b0) (h:FO P H t (aD T x) (low.map (aD T)) (hi.map (aD T)) (b0.map (aD T)) (fun v=>k v H)=some r):bm P ro T o H (.some false (tid false (aD T x))) lo k r:=by
 have b5:∀ c,o.op≠ .defer c:=fun c h=>by grind
 have ct:∀ {a:Act} {w:World} {y:Value},(Instr.sliceAt t (a.eval x) (low.map a.eval) (hi.map a.eval) (b0.map a.eval)).run P w= .ok y w→(execOp a.eval o).run P w= .ok (.value y) w:=by
  intro a w y J
  unfold execOp
  simp_all
 have ch:x ∈ o.op.operands:=by rw [c7];simp [Op.operands]
 have b7:∀ y,low=some y→y ∈ o.op.operands:=by rintro y rfl;rw [c7];simp [Op.operands]
 have b6:∀ y,hi=some y→y ∈ o.op.operands:=by rintro y rfl;rw [c7];simp [Op.operands]
 have eh:∀ y,b0=some y→y ∈ o.op.operands:=by rintro y rfl;rw [c7];simp [Op.operands]
 unfold FO at h
 simp only [Bool.cond_eq_ite] at h
 split at h
 ·rename_i s bx a7
  split at h
  ·rename_i O
   have O:b0=none:=by simp_all
   obtain ⟨l,h',U,M,ab,aE,G⟩:=pq h
   refine dO U (fP _) b5 (fun B0 w0 b2 D α a w b3 b1 I=> ?_)
   have e1:=I x ch
   rw [a7] at e1
   have dx:a.eval x= .string s:=e1
   refine ⟨_,ct ?_,rfl⟩
   rw [O,dx]
   unfold Instr.sliceAt
   simp only [Sem.run_bind,run_underlying bx,Result.andThen,Instr.slice,Option.map_none,Option.isSome_none,Bool.false_eq_true,if_false,wm (P:=P) (w:=w) (b:=false) (aE.val (fun y J=>I y (b7 y J))) (G.val (fun y J=>I y (b6 y J))) M ab,Sem.run_pure,afz]
  ·cases h
 ·rename_i e fl ez i off len bx a7
  split at h
  ·rename_i c3
   rw [Bool.and_eq_true,beq_iff_eq] at c3
   obtain ⟨rfl,Z⟩:=c3
   obtain ⟨ti,Z⟩:=Option.isSome_iff_exists.1 Z
   split at h
   ·rename_i O
    have O:b0=none:=by simp_all
    obtain ⟨l,h',U,M,ab,aE,G⟩:=pq h
    refine dO U (fP _) b5 (fun B0 w0 b2 D α a w b3 b1 I=> ?_)
    have e1:=I x ch
    rw [a7] at e1
    obtain ⟨_,cap,ev,a1,a6,ea,_⟩:=id e1
    refine ⟨_,ct ?_,FN e1 a1 M (Nat.le_trans ab a6) (Nat.le_refl cap) ?_⟩
    ·rw [O,a1]
     exact wo bx Z (wm (aE.val (fun y J=>I y (b7 y J))) (G.val (fun y J=>I y (b6 y J))) M (Nat.le_trans ab a6))
    ·intro c6
     cases hi with
     | some bD=>cases c6
     | none=>
      rcases G with ⟨_,G⟩ | ⟨_,_,G,_⟩
      ·grind
      ·cases G
   ·rename_i km m O
    split at h
    ·rename_i c5 z ed
     obtain ⟨l,h',U,M,ab,aE,G⟩:=pq h
     split at U
     ·rename_i a6
      rw [Bool.and_eq_true,decide_eq_true_eq,decide_eq_true_eq] at a6
      refine dO U (fP _) b5 (fun B0 w0 b2 D α a w b3 b1 I=> ?_)
      have e1:=I x ch
      rw [a7] at e1
      obtain ⟨_,cap,ev,a1,et,ea,_⟩:=id e1
      obtain ⟨bD,rfl,eb⟩:=Option.map_eq_some_iff.1 ed
      obtain ⟨b4,rfl,ec⟩:=Option.map_eq_some_iff.1 O
      have c0:=I bD (b6 bD rfl)
      have em:=I b4 (eh b4 rfl)
      rw [eb] at c0
      rw [ec] at em
      have c4:0≤z∧h'=z.toNat:=by
       rcases G with ⟨G,_⟩ | ⟨_,_,G,dy,ep⟩
       ·cases G
       grind
      refine ⟨_,ct ?_,FN (m:=m.toNat) e1 a1 M (by omega) (by omega) ?_⟩
      ·rw [a1]
       exact wo bx Z (PD (aE.val (fun y J=>I y (b7 y J))) (kh:=c5) (zh:=z) (by rw [Option.map_some];rw [show a.eval bD= .int c5 z from c0]) c4.1 c4.2 (km:=km) (zm:=m) (by rw [Option.map_some];rw [show a.eval b4= .int km m from em]) (by omega) rfl M (by omega) (by omega))
      grind
     ·cases U
    ·cases h
   ·cases h
  ·cases h
 ·rename_i e fl ez n f bx a7
  split at h
  ·rename_i c3
   rw [Bool.and_eq_true,beq_iff_eq] at c3
   obtain ⟨rfl,Z⟩:=c3
   obtain ⟨ti,Z⟩:=Option.isSome_iff_exists.1 Z
   split at h
   ·rename_i O
    have O:b0=none:=by simp_all
    obtain ⟨l,h',U,M,ab,aE,G⟩:=pq h
    refine dO U (fP _) b5 (fun B0 w0 b2 D α a w b3 b1 I=> ?_)
    have e1:=I x ch
    rw [a7] at e1
    obtain ⟨A,cap,a1,a6,ea,_⟩:=id e1
    refine ⟨_,ct ?_,Nf e1 a1 ab M (Nat.le_trans ab a6) (Nat.le_refl cap) ?_⟩
    ·rw [O,a1]
     exact wo bx Z (wm (aE.val (fun y J=>I y (b7 y J))) (G.val (fun y J=>I y (b6 y J))) M (Nat.le_trans ab a6))
    ·intro c6
     cases hi with
     | some bD=>cases c6
     | none=>
      rcases G with ⟨_,G⟩ | ⟨_,_,G,_⟩
      ·grind
      ·cases G
   ·rename_i km m O
    split at h
    ·rename_i c5 z ed
     obtain ⟨l,h',U,M,ab,aE,G⟩:=pq h
     split at U
     ·rename_i a6
      rw [Bool.and_eq_true,decide_eq_true_eq,decide_eq_true_eq] at a6
      refine dO U (fP _) b5 (fun B0 w0 b2 D α a w b3 b1 I=> ?_)
      have e1:=I x ch
      rw [a7] at e1
      obtain ⟨A,cap,a1,et,ea,_⟩:=id e1
      obtain ⟨bD,rfl,eb⟩:=Option.map_eq_some_iff.1 ed
      obtain ⟨b4,rfl,ec⟩:=Option.map_eq_some_iff.1 O
      have c0:=I bD (b6 bD rfl)
      have em:=I b4 (eh b4 rfl)
      rw [eb] at c0
      rw [ec] at em
      have c4:0≤z∧h'=z.toNat:=by
       rcases G with ⟨G,_⟩ | ⟨_,_,G,dy,ep⟩
       ·cases G
       grind
      refine ⟨_,ct ?_,Nf (m:=m.toNat) e1 a1 ab M (by omega) (by omega) ?_⟩
      ·rw [a1]
       exact wo bx Z (PD (aE.val (fun y J=>I y (b7 y J))) (kh:=c5) (zh:=z) (by rw [Option.map_some];rw [show a.eval bD= .int c5 z from c0]) c4.1 c4.2 (km:=km) (zm:=m) (by rw [Option.map_some];rw [show a.eval b4= .int km m from em]) (by omega) rfl M (by omega) (by omega))
      grind
     ·cases U
    ·cases h
   ·cases h
  ·cases h
 ·rename_i e bx a7
  split at h
  ·rename_i O
   have O:b0=none:=by simp_all
   split at h
   ·rename_i Z
    obtain ⟨ti,Z⟩:=Option.isSome_iff_exists.1 Z
    obtain ⟨l,h',U,M,ab,aE,G⟩:=pq h
    refine dO U (fP _) b5 (fun B0 w0 b2 D α a w b3 b1 I=> ?_)
    have e1:=I x ch
    have en:=e1
    rw [a7] at e1
    have dx:a.eval x= .slice none 0 0:=e1
    refine ⟨_,ct ?_,en⟩
    have e5:l=0:=by omega
    have e4:h'=0:=by omega
    rw [O,dx]
    have:=wo (P:=P) (w:=w) bx Z (A:=none) (wm (len:=0) (cap:=0) (b:=true) (aE.val (fun y J=>I y (b7 y J))) (G.val (fun y J=>I y (b6 y J))) M ab)
    grind
   ·cases h
  ·cases h
 ·rename_i n e i off bx a7
  split at h
  ·rename_i c ty st O eg
   have O:b0=none:=by simp_all
   split at h
   ·rename_i a6
    rw [Bool.and_eq_true,Bool.and_eq_true,decide_eq_true_eq] at a6
    obtain ⟨⟨e7,Z⟩,e6⟩:=a6
    obtain ⟨ti,Z⟩:=Option.isSome_iff_exists.1 Z
    obtain ⟨l,h',U,M,ab,aE,G⟩:=pq h
    refine dO U (fP _) b5 (fun B0 w0 b2 D α a w b3 b1 I=> ?_)
    have e1:=I x ch
    rw [a7] at e1
    obtain ⟨hi,a1⟩:=e1
    have eu:=(List.getElem?_eq_some_iff.1 eg).1
    have eo:b2 i=some (.row c ty st):=(b3 i false (by rw [a7];simp [tid]) eu).trans eg
    obtain ⟨cs,fr,eL,eN,eR,e2,e3⟩:=iB b1 hi eo (by grind)
    refine ⟨_,ct ?_,FN (fl:=true) (t:=e) (i:=i) (off:=off) (len:=n) (A:=some ⟨(α i).1,off,none⟩) (cap:=n) (x:= .slice (some ⟨(α i).1,off,none⟩) n n) ⟨hi,n,off,rfl,Nat.le_refl _,fun _=>rfl, .inr ⟨rfl,by omega⟩⟩ rfl M ab (Nat.le_refl _) ?_⟩
    ·rw [O,a1]
     unfold Instr.sliceAt
     simp only [Sem.run_bind,run_underlying bx,Result.andThen,Instr.sureAddr,Option.map_none,wm (P:=P) (w:=w) (b:=false) (aE.val (fun y J=>I y (b7 y J))) (G.val (fun y J=>I y (b6 y J))) M ab,run_sizeOf w Z,Sem.run_pure,Option.map_some]
     split <;> rfl
    ·intro c6
     rcases G with ⟨G,dy⟩ | ⟨_,_,G,_⟩
     ·exact dy.symm
     grind
   ·cases h
  ·cases h
 ·cases h
end
end Go.V
namespace Go.V
open Go Go.RowKit
section
variable {R : Type} {P : Program} {ro : Option Nat} {T : List AV} {o : Oper} {H : Hp} {lo : Nat} {k : Kn R} {r : R}
theorem Rh {G:IntKind} {z:Int} (h:ai G z=true):G.wrap z=z:=by
 unfold ai at h
 rw [Bool.and_eq_true,decide_eq_true_eq,decide_eq_true_eq] at h
 obtain ⟨I,J⟩:=h
 cases G <;> simp [IntKind.min,IntKind.max,IntKind.wrap,IntKind.signed,IntKind.bits] at I J ⊢ <;> omega
theorem tv {G:IntKind} {z:Int} {K:AV→Option R} (h:ph G z K=some r):K (.val (.int G (G.wrap z)))=some r:=by
 unfold ph at h
 simp only [Bool.cond_eq_ite] at h
 split at h
 ·split at h
  ·rename_i I;rw [Rh I];exact h
  ·cases h
 ·exact h
theorem CD (x y:Int):(x==y)=decide (x=y):=rfl
theorem Zn {G:BinOp} {J:IntKind} {x y:Int} {K:AV→Option R} (M:G≠ .shl∧G≠ .shr) (h:DN G J x y K=some r) (t:TypeId):∃ v,K (.val v)=some r∧∀ w,(binOp G t (.int J x) (.int J y)).run P w= .ok v w:=by
 cases G <;> simp only [DN] at h <;> (try (cases h;done))
 case add=>exact ⟨_,tv h,fun w=>by simp [binOp,Op.intArith,Sem.run_pure]⟩
 case sub=>exact ⟨_,tv h,fun w=>by simp [binOp,Op.intArith,Sem.run_pure]⟩
 case mul=>exact ⟨_,tv h,fun w=>by simp [binOp,Op.intArith,Sem.run_pure]⟩
 case quo=>
  simp only [Bool.cond_eq_ite,decide_eq_true_eq] at h
  split at h
  ·cases h
  ·rename_i I;exact ⟨_,tv h,fun w=>by simp [binOp,Op.intDiv,I,Sem.run_pure]⟩
 case rem=>
  simp only [Bool.cond_eq_ite,decide_eq_true_eq] at h
  split at h
  ·cases h
  ·rename_i I;exact ⟨_,h,fun w=>by simp [binOp,Op.intDiv,I,Sem.run_pure]⟩
 case and=>exact ⟨_,h,fun w=>by simp [binOp,Op.intBits,cm,Sem.run_pure]⟩
 case or=>exact ⟨_,h,fun w=>by simp [binOp,Op.intBits,cm,Sem.run_pure]⟩
 case xor=>exact ⟨_,h,fun w=>by simp [binOp,Op.intBits,cm,Sem.run_pure]⟩
 case andNot=>exact ⟨_,h,fun w=>by simp [binOp,Op.intBits,cm,Sem.run_pure]⟩
 case eql=>exact ⟨_,h,fun w=>by simp [binOp,Op.intCmp,Sem.run_pure];grind⟩
 case neq=>exact ⟨_,h,fun w=>by simp [binOp,Op.intCmp,Sem.run_pure,bne];grind⟩
 case lss=>exact ⟨_,h,fun w=>by simp [binOp,Op.intCmp,Sem.run_pure]⟩
 case leq=>exact ⟨_,h,fun w=>by simp [binOp,Op.intCmp,Sem.run_pure]⟩
 case gtr=>exact ⟨_,h,fun w=>by simp [binOp,Op.intCmp,Sem.run_pure]⟩
 case geq=>exact ⟨_,h,fun w=>by simp [binOp,Op.intCmp,Sem.run_pure]⟩
theorem PL {G:BinOp} {J O:IntKind} {x y:Int} {K:AV→Option R} (h:z7 G J x y K=some r) (M:G= .shl∨G= .shr) (t:TypeId):∃ v,K (.val v)=some r∧∀ w,(binOp G t (.int J x) (.int O y)).run P w= .ok v w:=by
 unfold z7 at h
 simp only [Bool.cond_eq_ite,decide_eq_true_eq] at h
 split at h
 ·cases h
 ·rename_i I
  rcases M with rfl | rfl
  ·exact ⟨_,tv h,fun w=>by simp [binOp,Op.shift,I,Sem.run_pure]⟩
  ·exact ⟨_,h,fun w=>by simp [binOp,Op.shift,I,Sem.run_pure]⟩
theorem Gp (s:ByteArray):s.toList=s.data.toList:=Go.ByteArray.toList_eq s
theorem afx (a b:ByteArray):a ++ b=sL a b:=by
 obtain ⟨⟨x⟩⟩:=a
 obtain ⟨⟨y⟩⟩:=b
 rw [Go.ByteArray.mk_append_mk];rfl
theorem afB {G:BinOp} {x y:ByteArray} {K:AV→Option R} (h:Gn G x y K=some r) (t:TypeId):∃ v,K (.val v)=some r∧∀ w,(binOp G t (.string x) (.string y)).run P w= .ok v w:=by
 cases G <;> simp only [Gn] at h <;> (try (cases h;done))
 case add=>
  simp only [Bool.cond_eq_ite,decide_eq_true_eq] at h
  split at h
  ·rename_i I
   refine ⟨_,h,fun w=> ?_⟩
   have:(binOp .add t (.string x) (.string y))=Op.stringOp .add x y:=by simp [binOp]
   rw [this,run_string_add_sum w x y I,afx]
  ·cases h
 all_goals exact ⟨_,h,fun w=>by simp [binOp,Op.stringOp,aG,strLt,Gp,Sem.run_pure]⟩
theorem NX {t:TypeId} {J:Array Value} {off:Nat} {v:Value} (h:r5 P t J.toList off=some v) (w:World):(part t J off).run P w= .ok v w:=by
 unfold r5 at h
 simp only [Bool.cond_eq_ite] at h
 split at h
 ·rename_i ha
  cases h
  have I:∃ d,P.underlying t=some d:=by
   unfold dR at ha
   grind
  obtain ⟨d,G⟩:=I
  obtain ⟨i,hi⟩:=rK G
  unfold part
  simp only [Sem.run_bind,qu G,ha,Result.andThen,if_true,run_sizeOf w hi,Sem.run_pure]
  congr 2
  grind
 ·rename_i ha
  split at h
  ·rename_i I
   obtain ⟨d,G⟩:=Option.isSome_iff_exists.1 I
   rw [Array.getElem?_toList] at h
   unfold part
   simp only [Sem.run_bind,qu G,ha,Result.andThen,Bool.false_eq_true,if_false,h,Sem.run_pure]
  ·cases h
theorem Dm {E:TypeId→Value→Value→Option Bool} {d:Nat} (I:∀ t x y q,E t x y=some q→∀ w,(Op.equalIn d t x y).run P w= .ok q w) {M O:Array Value} :∀ (G:List Field) {q:Bool},pE P E M.toList O.toList G=some q→∀ w,(Op.eqFields d M O G).run P w= .ok q w
 | [],q,h,w=>by cases h;simp [Op.eqFields,Sem.run_pure]
 | f :: G,q,h,w=>by
  rw [pE] at h
  simp only [Bool.cond_eq_ite] at h
  rw [Op.eqFields]
  split at h
  ·rename_i ab
   have J : ¬ f.name ≠ "_" := by grind
   rw [if_neg J]
   exact Dm I G h w
  ·rename_i ab
   have J : f.name ≠ "_" := by grind
   rw [if_pos J]
   split at h
   ·rename_i a b ha hb
    split at h
    ·rename_i q1 U
     split at h
     ·rename_i q2 Z
      cases h
      simp only [Sem.run_bind,NX ha w,NX hb w,I _ _ _ _ U w,Result.andThen]
      cases q1
      ·simp_all
      ·simp only [Bool.not_true,Bool.false_eq_true,if_false,Bool.true_and]
       exact Dm I G Z w
     ·cases h
    ·cases h
   ·cases h
theorem LO:∀ (d:Nat) {t:TypeId} {x y:Value} {q:Bool},jJ P d t x y=some q→∀ (n:Nat) (w:World),d≤n→(Op.equalIn n t x y).run P w= .ok q w
 | 0,t,x,y,q,h,n,w,O=>by cases h
 | d+1,t,x,y,q,h,n,w,O=>by
  obtain ⟨n,rfl⟩:∃ m,n=m+1:= ⟨n - 1,by omega⟩
  unfold jJ at h
  split at h
  ·rename_i G;cases h;rw [run_equalIn_bool' w n t _ _ G]
  ·rename_i G
   simp only [Bool.cond_eq_ite] at h
   split at h
   ·rename_i I
    have I:=of_decide_eq_true I
    subst I
    cases h
    rw [run_equalIn_int w n t _ _ _ _ G]
    rfl
   ·cases h
  ·rename_i G;cases h;rw [run_equalIn_string w n t _ _ G,Gp,Gp];rfl
  ·rename_i J Z ab G
   simp only [Bool.cond_eq_ite] at h
   split at h
   ·cases h
   ·rename_i aE
    have M:P.fieldsOf t=J:=by simp [Program.fieldsOf,G]
    rw [run_equalIn_struct w n t Z ab (by grind) (by grind),M]
    exact Dm (fun t x y q U w=>LO d U n w (by omega)) _ h w
  ·rename_i G;cases h;simp [Op.equalIn,run_underlying G,Sem.run_pure]
  ·rename_i G;cases h;simp [Op.equalIn,run_underlying G,Sem.run_pure]
  ·rename_i G;cases h;simp [Op.equalIn,run_underlying G,Sem.run_pure]
  ·rename_i G;cases h;simp [Op.equalIn,run_underlying G,Sem.run_pure]
  ·rename_i G;cases h;simp [Op.equalIn,run_underlying G,Sem.run_pure]
  ·cases h
end
end Go.V
namespace Go.V
open Go Go.RowKit
section
variable {R : Type} {P : Program} {ro : Option Nat} {T : List AV} {o : Oper} {H : Hp} {lo : Nat} {k : Kn R} {r : R}
theorem zW {G:BinOp} {t ty:TypeId} {x y:Operand} {a:Act} {w:World} {u v z:Value} (J:o.op= .binOp G t x y ty) (M:a.eval x=u) (O:a.eval y=v) (I:(eqGuard G t x y u v).run P w= .ok () w) (hb:(binOp G t u v).run P w= .ok z w):(execOp a.eval o).run P w= .ok (.value z) w:=by
 unfold execOp
 simp_all
theorem Y9 {G:BinOp} {t:TypeId} {x y:Operand} {w:World} {J I:IntKind} {a b:Int} :(eqGuard G t x y (.int J a) (.int I b)).run P w= .ok () w:=by cases G <;> simp [eqGuard,Sem.run_pure]
theorem Zb {G:BinOp} {t:TypeId} {x y:Operand} {w:World} {a b:ByteArray} :(eqGuard G t x y (.string a) (.string b)).run P w= .ok () w:=by cases G <;> simp [eqGuard,Sem.run_pure]
theorem Za {G:BinOp} {t:TypeId} {x y:Operand} {w:World} {a b:Value} (ha:ot a=true) (hb:ot b=true) (I:P.eqGuardType P.depth t=false):(eqGuard G t x y a b).run P w= .ok () w:=by
 cases a <;> simp only [ot,Bool.false_eq_true] at ha <;> cases b <;> simp only [ot,Bool.false_eq_true] at hb <;> first
  | exact run_eqGuard_agg w G t x y _ _ I
  | (cases G <;> simp [eqGuard,Sem.run_pure])
def rB (G:BinOp) (q:Bool):Bool:=match G with | .eql=>q | _=> !q
theorem KF {G:BinOp} {t:TypeId} {a b:Value} {w:World} {q:Bool} (I:G= .eql∨G= .neq) (O:∀ s u,¬ (a= .string s∧b= .string u)) (hi:∀ k x U y,¬ (a= .int k x∧b= .int U y)) (M:∀ k x,a≠ .float k x) (J:∀ k x y,a≠ .complex k x y) (h:(Op.equal t a b).run P w= .ok q w):(binOp G t a b).run P w= .ok (.bool (rB G q)) w:=by
 have Z:∀ G,G=BinOp.eql∨G= .neq→binOp G t a b=(if G= .eql then (do pure (.bool (← Op.equal t a b))) else (do pure (.bool (!(← Op.equal t a b))))):=by
  intro G I
  rcases I with rfl | rfl <;> (cases a <;> cases b <;> first
   | rfl
   | exact absurd ⟨rfl,rfl⟩ (O _ _)
   | exact absurd ⟨rfl,rfl⟩ (hi _ _ _ _)
   | exact absurd rfl (M _ _)
   | exact absurd rfl (J _ _ _)
   | simp [binOp])
 rw [Z G I]
 rcases I with rfl | rfl
 ·simp only [if_true,Sem.run_bind,h,Result.andThen,Sem.run_pure,rB]
 ·simp only [reduceCtorEq,if_false,Sem.run_bind,h,Result.andThen,Sem.run_pure,rB]
theorem Yw {d:Nat} {t:TypeId} {a b:Value} {q:Bool} (h:jJ P d t a b=some q):(∀ k x,a≠ .float k x)∧(∀ k x y,a≠ .complex k x y):=by
 constructor
 ·rintro k x rfl
  cases d with
  | zero=>cases h
  | succ d=>unfold jJ at h;grind
 ·rintro k x y rfl
  cases d with
  | zero=>cases h
  | succ d=>unfold jJ at h;grind
theorem Mn {G:BinOp} {t:TypeId} {x y:Operand} {w:World} {a b:Value} (h:∀ J,a≠ .agg J) (I:a≠ .nilIface):(eqGuard G t x y a b).run P w= .ok () w:=by
 cases a <;> first
  | exact absurd rfl (h _)
  | exact absurd rfl I
  | (cases G <;> simp [eqGuard,Sem.run_pure])
theorem LQ {t e:TypeId} {w:World} {A:Addr} {n c m d:Nat} (G:P.underlying t=some (.slice e)):(Op.equal t (.slice (some A) n c) (.slice none m d)).run P w= .ok false w:=by
 show (Op.equalIn (9999+1) t _ _).run P w=_
 unfold Op.equalIn
 simp only [Sem.run_bind,run_underlying G,Result.andThen,Sem.run_pure]
theorem YC {t e:TypeId} {w:World} {A:Addr} {n c m d:Nat} (G:P.underlying t=some (.slice e)):(Op.equal t (.slice none m d) (.slice (some A) n c)).run P w= .ok false w:=by
 show (Op.equalIn (9999+1) t _ _).run P w=_
 unfold Op.equalIn
 simp only [Sem.run_bind,run_underlying G,Result.andThen,Sem.run_pure,Option.isNone_some]
theorem Yy {t:TypeId} {ps J:Array TypeId} {M:Bool} {w:World} {G:Fn} {O U:Array Value} (I:P.underlying t=some (.func ps J M)):(Op.equal t (.func G O U) .nilFunc).run P w= .ok false w:=by
 show (Op.equalIn (9999+1) t _ _).run P w=_
 unfold Op.equalIn
 simp only [Sem.run_bind,run_underlying I,Result.andThen,Sem.run_pure]
theorem Yz {t:TypeId} {ps J:Array TypeId} {M:Bool} {w:World} {G:Fn} {O U:Array Value} (I:P.underlying t=some (.func ps J M)):(Op.equal t .nilFunc (.func G O U)).run P w= .ok false w:=by
 show (Op.equalIn (9999+1) t _ _).run P w=_
 unfold Op.equalIn
 simp only [Sem.run_bind,run_underlying I,Result.andThen,Sem.run_pure]
theorem YA {t e:TypeId} {w:World} {A:Addr} (G:P.underlying t=some (.pointer e)):(Op.equal t (.pointer (some A)) (.pointer none)).run P w= .ok false w:=by
 show (Op.equalIn (9999+1) t _ _).run P w=_
 unfold Op.equalIn
 simp only [Sem.run_bind,run_underlying G,Result.andThen,Sem.run_pure]
theorem YB {t e:TypeId} {w:World} {A:Addr} (G:P.underlying t=some (.pointer e)):(Op.equal t (.pointer none) (.pointer (some A))).run P w= .ok false w:=by
 show (Op.equalIn (9999+1) t _ _).run P w=_
 unfold Op.equalIn
 simp only [Sem.run_bind,run_underlying G,Result.andThen,Sem.run_pure,Option.isNone_some]
theorem Yx {I:BinOp} {t:TypeId} {a b:AV} {q:Bool} (aE:I= .eql∨I= .neq) (h:pD P t a b=some q) (ab:∀ v,toVal a=some v→(∀ O z,v≠ .int O z)∧(∀ s,v≠ .string s)) {D:Nat→Prop} {α:Nat→Nat×Nat} {B:Nat→Prop} {w:World} {u v:Value} (ha:a.Rel P α B w D u) (hb:b.Rel P α B w D v) (x y:Operand):
  (eqGuard I t x y u v).run P w= .ok () w∧(binOp I t u v).run P w= .ok (.bool (rB I q)) w:=by
 have go:∀ {u v:Value} {q:Bool},(∀ ch,u≠ .agg ch)→u≠ .nilIface→(∀ O z,u≠ .int O z)→(∀ s,u≠ .string s)→(∀ k x,u≠ .float k x)→(∀ k x y,u≠ .complex k x y)→(Op.equal t u v).run P w= .ok q w→
   (eqGuard I t x y u v).run P w= .ok () w∧(binOp I t u v).run P w= .ok (.bool (rB I q)) w:=
  fun bD b0 b1 M b2 b3 b4=> ⟨Mn bD b0,KF aE (fun s b7 e=>M s e.1) (fun k x b5 y e=>b1 k x e.1) b2 b3 b4⟩
 unfold pD at h
 split at h
 ·rename_i ct c0 J a1
  simp only [Bool.cond_eq_ite] at h
  split at h
  ·rename_i U
   rw [Bool.and_eq_true,Bool.and_eq_true,Bool.not_eq_true'] at U
   obtain ⟨⟨a6,a7⟩,bx⟩:=U
   rw [toVal_rel J ha,toVal_rel a1 hb]
   have Z:=Yw h
   exact ⟨Za a6 a7 bx,KF aE (fun s b7 e=>(ab _ J).2 s e.1) (fun k x b5 y e=>(ab _ J).1 k x e.1) Z.1 Z.2 (LO 20 h 10000 w (by decide))⟩
  ·cases h
 ·split at h
  ·rename_i G _
   cases h
   obtain ⟨_,cap,b6,rfl,_⟩:=ha
   cases hb
   exact go (by simp) (by simp) (by simp) (by simp) (by simp) (by simp) (LQ G)
  ·rename_i G _
   cases h
   obtain ⟨_,cap,b6,rfl,_⟩:=hb
   cases ha
   exact go (by simp) (by simp) (by simp) (by simp) (by simp) (by simp) (YC G)
  ·rename_i G _
   cases h
   obtain ⟨_,_,rfl,_⟩:=ha
   cases hb
   exact go (by simp) (by simp) (by simp) (by simp) (by simp) (by simp) (Yy G)
  ·rename_i G _
   cases h
   obtain ⟨_,_,rfl,_⟩:=hb
   cases ha
   exact go (by simp) (by simp) (by simp) (by simp) (by simp) (by simp) (Yz G)
  ·rename_i G _
   cases h
   obtain ⟨_,rfl⟩:=ha
   cases hb
   exact go (by simp) (by simp) (by simp) (by simp) (by simp) (by simp) (YA G)
  ·rename_i G _
   cases h
   obtain ⟨_,rfl⟩:=hb
   cases ha
   exact go (by simp) (by simp) (by simp) (by simp) (by simp) (by simp) (YB G)
  ·rename_i G _
   rw [Bool.cond_eq_ite] at h
   split at h
   ·rename_i c3
    cases h
    obtain ⟨A,cap,rfl,_,_,M⟩:=ha
    obtain ⟨b,o,cs,ty,fr,rfl,_⟩:=M.resolve_left (by grind)
    cases hb
    exact go (by simp) (by simp) (by simp) (by simp) (by simp) (by simp) (LQ G)
   ·cases h
  ·cases h
theorem MB {x:Value} (h:b8 x=true):x= .bool (az x):=by
 cases x with
 | bool b=>rfl
 | _=>cases h
theorem MC {x:Value} (h:bb x=true):x= .string (ah x):=by
 cases x with
 | string s=>rfl
 | _=>cases h
theorem Dl {R:Type} {M:TypeId→Value→Value→(Bool→Option R)→Option R} {E:TypeId→Value→Value→Option Bool} (I:∀ t x y K r,M t x y K=some r→∃ q,E t x y=some q∧K q=some r) {O U:List Value} :∀ {G:List Field} {K:Bool→Option R} {r:R},uq P M O U G K=some r→∃ q,pE P E O U G=some q∧K q=some r
 | [],K,r,h=> ⟨true,rfl,h⟩
 | f :: G,K,r,h=>by
  rw [uq] at h
  rw [pE]
  simp only [Bool.cond_eq_ite] at h ⊢
  split at h
  ·rename_i J
   rw [if_pos J]
   exact Dl I h
  ·rename_i J
   rw [if_neg J]
   split at h
   ·rename_i a b ha hb
    obtain ⟨q,ab,Z⟩:=I _ _ _ _ _ h
    obtain ⟨q',aE,a1⟩:=Dl I Z
    grind
   ·cases h
theorem LN {R:Type} :∀ (d:Nat) {t:TypeId} {x y:Value} {K:Bool→Option R} {r:R},yv P d t x y K=some r→∃ q,jJ P d t x y=some q∧K q=some r
 | 0,t,x,y,K,r,h=>by cases h
 | d+1,t,x,y,K,r,h=>by
  unfold yv at h
  simp only [Bool.cond_eq_ite] at h
  split at h
  ·rename_i G
   split at h
   ·rename_i hb
    rw [Bool.and_eq_true] at hb
    refine ⟨_, ?_,h⟩
    rw [MB hb.1,MB hb.2]
    unfold jJ
    rw [G];rfl
   ·cases h
  ·rename_i G
   split at h
   ·rename_i hb
    rw [Bool.and_eq_true] at hb
    refine ⟨_, ?_,h⟩
    rw [MC hb.1,MC hb.2]
    unfold jJ
    rw [G];rfl
   ·cases h
  ·rename_i M G
   split at h
   ·rename_i Z ab
    split at h
    ·cases h
    ·rename_i U
     obtain ⟨q,O,I⟩:=Dl (fun t x y K r J=>LN d J) h
     refine ⟨q, ?_,I⟩
     unfold jJ
     grind
   ·cases h
  grind
theorem LM {R:Type} {t:TypeId} {x y:AV} {K:Bool→Option R} {r:R} (h:Dk P t x y K=some r):∃ q,pD P t x y=some q∧K q=some r:=by
 unfold Dk at h
 split at h
 ·rename_i a b ha hb
  simp only [Bool.cond_eq_ite] at h
  split at h
  ·rename_i J
   obtain ⟨q,I,G⟩:=LN 20 h
   refine ⟨q, ?_,G⟩
   unfold pD
   grind
  ·cases h
 ·split at h
  ·rename_i O _
   rw [Bool.cond_eq_ite] at h
   split at h
   ·rename_i M
    refine ⟨false, ?_,h⟩
    unfold pD
    grind
   ·cases h
  grind
theorem step_eq {I:BinOp} {t ty:TypeId} {x y:Operand} (J:o.op= .binOp I t x y ty) (h:xy P I t (aD T x) (aD T y) H k=some r) (aE:∀ v,toVal (aD T x)=some v→(∀ a6 z,v≠ .int a6 z)∧(∀ s,v≠ .string s)):bm P ro T o H (.some false []) lo k r:=by
 have a7:∀ c,o.op≠ .defer c:=fun c h=>by grind
 have go:∀ {q:Bool},(I= .eql∨I= .neq)→pD P t (aD T x) (aD T y)=some q→k (.val (.bool (rB I q))) H=some r→bm P ro T o H (.some false []) lo k r:=by
  intro q a1 G ab
  refine fk ab a7 (fun D α B a w M=> ?_)
  have U:=M x (by rw [J];simp [Op.operands])
  have Z:=M y (by rw [J];simp [Op.operands])
  obtain ⟨e1,O⟩:=Yx a1 G aE U Z x y
  exact ⟨_,zW J rfl rfl e1 O,rfl⟩
 unfold xy at h
 split at h
 ·unfold yw at h
  obtain ⟨q,G,h⟩:=LM h
  exact go (.inl rfl) G h
 ·unfold yw at h
  obtain ⟨q,G,h⟩:=LM h
  exact go (.inr rfl) G h
 ·cases h
theorem aeY {a1:BinOp} {t ty:TypeId} {x y:Operand} (G:o.op= .binOp a1 t x y ty) (h:FU P a1 t (aD T x) (aD T y) H k=some r):bm P ro T o H (.some false []) lo k r:=by
 have a7:∀ c,o.op≠ .defer c:=fun c h=>by grind
 unfold FU at h
 split at h
 ·rename_i v ab
  split at h
  ·rename_i bD a
   split at h
   ·rename_i b0 b aE
    have Z:(∃ v,k (.val v) H=some r∧∀ w,(binOp a1 t (.int bD a) (.int b0 b)).run P w= .ok v w)→bm P ro T o H (.some false []) lo k r:=by
     rintro ⟨v,I,hb⟩
     refine fk I a7 (fun D α B bx w U=> ?_)
     have M:=U x (by rw [G];simp [Op.operands])
     have O:=U y (by rw [G];simp [Op.operands])
     rw [ab] at M
     rw [aE] at O
     exact ⟨v,zW G M O Y9 (hb w),rfl⟩
    unfold KE at h
    split at h
    ·exact Z (PL h (.inl rfl) t)
    ·exact Z (PL h (.inr rfl) t)
    ·rename_i b1 b2
     simp only [Bool.cond_eq_ite] at h
     split at h
     ·rename_i I
      have I:=of_decide_eq_true I
      subst I
      exact Z (Zn ⟨b1,b2⟩ h t)
     ·cases h
   ·cases h
  ·rename_i s
   split at h
   ·rename_i b7 aE
    obtain ⟨v,I,hb⟩:=afB h t (P:=P)
    refine fk I a7 (fun D α B bx w U=> ?_)
    have M:=U x (by rw [G];simp [Op.operands])
    have O:=U y (by rw [G];simp [Op.operands])
    rw [ab] at M
    rw [aE] at O
    exact ⟨v,zW G M O Zb (hb w),rfl⟩
   ·cases h
  ·rename_i b5 b6
   refine step_eq G (by grind) (fun b3 J=> ?_)
   rw [ab] at J
   cases J
   grind
 ·rename_i b4
  refine step_eq G h (fun b3 J=> ?_)
  cases a6:aD T x with
  | val v=>grind
  | agg cs=>
   rw [a6] at J
   simp only [toVal,Bool.cond_eq_ite] at J
   grind
  | _=>rw [a6] at J;cases J
end
end Go.V
namespace Go.V
open Go Go.RowKit
theorem afK (c:ao) (o m:Nat):(c.sub o m).a8=(c.a8.drop o).take m:=by
 cases c <;> simp [ao.sub,ao.a8,List.map_take,List.map_drop]
theorem QK (c:ao) (o m:Nat) (h:o+m≤c.len):(c.sub o m).len=m:=by
 cases c <;> simp [ao.sub,ao.len] at h ⊢ <;> omega
theorem DO {k:IntKind} {c:ao} {zs:List Int} (h:c.uB k=some zs):c.a8=zs.map (fun z=> .val (.int k z))∧c.len=zs.length:=by
 cases c with
 | cells l=>have:=rr h;subst this;exact ⟨rfl,by simp [ao.len]⟩
 | ints I J=>
  simp only [ao.uB,Bool.cond_eq_ite] at h
  split at h
  ·rename_i G;have G:=of_decide_eq_true G;subst G;cases h;exact ⟨rfl,rfl⟩
  ·cases h
 | vals vs=>
  have:=rr h
  refine ⟨this, ?_⟩
  have:=congrArg List.length this
  simpa [ao.len] using this
theorem xv {Z:Option IntKind} {a b c:ao} {n:Nat} (h:a.app Z n b=some c) (a1:n≤a.len):c.a8=a.a8.take n ++ b.a8∧c.len=n+b.len:=by
 have G:∀ {c:ao},c.a8=a.a8.take n ++ b.a8→c.a8=a.a8.take n ++ b.a8∧c.len=n+b.len:=by
  intro c M
  refine ⟨M, ?_⟩
  have:=congrArg List.length M
  rw [ao.e8,List.length_append,List.length_take,ao.e8,ao.e8] at this
  omega
 unfold ao.app at h
 split at h
 ·rename_i k
  split at h
  ·rename_i ab O
   split at h
   ·rename_i aE U
    cases h
    apply G
    rw [(DO O).1,(DO U).1]
    simp [ao.a8,List.map_take]
   ·cases h
  ·cases h
 ·split at h
  ·cases h;apply G;simp [ao.a8,List.map_take]
  ·cases h;apply G;simp [ao.a8]
  ·rename_i ab l
   simp only [Bool.cond_eq_ite] at h
   split at h
   ·rename_i I
    cases h
    apply G
    have:(l.map kZ).map AV.val=l:=by
     rw [List.map_map]
     conv=>rhs;rw [← List.map_id l]
     apply List.map_congr_left
     intro v J
     have:=List.all_eq_true.1 I v J
     cases v <;> simp [isVal] at this
     rfl
    simp [ao.a8,List.map_take,this]
   ·cases h
  ·rename_i l aE _
   simp only [Bool.cond_eq_ite] at h
   split at h
   ·rename_i I
    cases h
    apply G
    have:(l.map kZ).map AV.val=l:=by
     rw [List.map_map]
     conv=>rhs;rw [← List.map_id l]
     apply List.map_congr_left
     intro v J
     have:=List.all_eq_true.1 I v J
     cases v <;> simp [isVal] at this
     rfl
    simp only [ao.a8,List.map_append,List.map_take,this]
   ·cases h;exact G rfl
  ·cases h;exact G rfl
theorem Dv {β:Type} (g:Nat→Nat→β) (sz:Nat):∀ (n q:Nat),q < n*sz→((List.range n).flatMap fun j=>(List.range sz).map (g j))[q]? =some (g (q / sz) (q % sz))
 | 0,q,h=>by omega
 | n+1,q,h=>by
  have O:0 < sz:=by
   grind
  have J:((List.range n).flatMap fun j=>(List.range sz).map (g j)).length=n*sz:=by
   simp [List.length_flatMap,List.map_const']
  rw [List.range_succ,List.flatMap_append]
  by_cases M:q < n*sz
  ·rw [List.getElem?_append_left (by grind)]
   exact Dv g sz n q M
  ·rw [List.getElem?_append_right (by grind),J]
   have U:(n+1)*sz=n*sz+sz:=Nat.succ_mul n sz
   have G:q / sz=n:=by
    rw [Nat.div_eq_iff O]
    grind
   have I:q % sz=q - n*sz:=by
    have:=Nat.div_add_mod q sz
    rw [G,Nat.mul_comm] at this
    omega
   rw [G,I]
   simp only [List.flatMap_cons,List.flatMap_nil,List.append_nil]
   grind
section
variable {P : Program} {D : Nat → Prop} {α : Nat → Nat × Nat} {B : Nat → Prop} {w : World}
structure Src (P:Program) (D:Nat→Prop) (α:Nat→Nat×Nat) (B:Nat→Prop) (w:World) (c:ao) (n sz:Nat) (u:Value) (news:List Value):Prop where
 len:news.length=n*sz
 UP:c.len=n*sz
 rel:aj P α B w c.a8 D news
 lenOf:∀ w2,(Builtin.lenOf u).run P w2= .ok n w2
 cells:∀ w2,w2.heap=w.heap→(Builtin.firstCells sz n u).run P w2= .ok news.toArray w2
theorem yA {a:Addr} {n m cap sz:Nat} {G:List Value} (J:G.length=n*sz) (h:∀ j v,G[j]? =some v→w.cell? (a.add j)=some v) (w2:World) (M:w2.heap=w.heap):(Builtin.firstCells sz n (.slice (some a) m cap)).run P w2= .ok G.toArray w2:=
 run_firstCells_some w2 sz n a m cap G J (fun j v I=>by have:=h j v I;unfold World.cell? at this ⊢;grind)
theorem rF {A:Option Addr} {m cap sz:Nat} (w2:World):(Builtin.firstCells sz 0 (.slice A m cap)).run P w2= .ok #[] w2:=by
 cases A with
 | none=>exact run_firstCells_none w2 sz 0 m cap
 | some a=>exact run_firstCells_some w2 sz 0 a m cap [] (by simp) (fun j v G=>by simp at G)
theorem L3 {β G:Type} (g:β→G):∀ l:List β,(l.flatMap fun x=> [g x])=l.map g
 | []=>rfl
 | x :: l=>by rw [List.flatMap_cons,L3 g l];rfl
theorem FD {k:Option IntKind} {sz n:Nat} {f:Nat→Nat→AV} {c:ao} (G:wj k sz n f=some c):c.a8=(List.range n).flatMap fun j=>(List.range sz).map (f j):=by
 unfold wj at G
 split at G
 ·simp only [Bool.cond_eq_ite] at G
  split at G
  ·rename_i J
   rw [beq_iff_eq] at J
   split at G
   ·rename_i zs U
    cases G
    subst J
    simp only [ao.a8]
    rw [← rr U]
    exact (L3 (fun j=>f j 0) _).symm
   ·cases G
  ·cases G
 ·simp only [Bool.cond_eq_ite] at G
  split at G
  ·rename_i O
   cases G
   refine List.ext_getElem? fun i=> ?_
   by_cases hi:i < n*sz
   ·rw [Dv f sz n i hi]
    have I:=List.all_eq_true.1 O i (List.mem_range.2 hi)
    show ((ag sz n f).map AV.val)[i]? =_
    unfold ag
    rw [List.map_map,List.getElem?_map,List.getElem?_range hi,Option.map_some]
    show some (AV.val (kZ (f (i / sz) (i % sz))))=_
    cases M:f (i / sz) (i % sz) with
    | val v=>rfl
    | _=>rw [M] at I;exact absurd I (by simp [isVal])
   ·rw [List.getElem?_eq_none (by simp only [ao.a8,ag,List.length_map,List.length_range];omega),List.getElem?_eq_none (by simp only [List.length_flatMap,List.map_const',List.length_map,List.length_range,List.sum_replicate_nat];omega)]
  ·cases G
theorem Px {R:Type} {k:Option IntKind} {sz n:Nat} {f:Nat→Nat→AV} {K:ao→Option R} {r:R} (h:zU k sz n f K=some r):∃ c,wj k sz n f=some c∧K c=some r:=by
 unfold zU at h
 unfold wj
 grind
theorem Dw {β:Type} (g:Nat→Nat→β) (sz n:Nat):((List.range n).flatMap fun j=>(List.range sz).map (g j)).length=n*sz:=by
 simp [List.length_flatMap,List.map_const']
theorem PA {k:Option IntKind} {t:TypeId} {n:Nat} {f:Nat→Nat→AV} {c:ao} (a1:wj k (P.cellsOf t) n f=some c) {fl:Bool} {u:Value} (bD:(AV.lst fl t n f).Rel P α B w D u):∃ b1,Src P D α B w c n (P.cellsOf t) u b1:=by
 obtain ⟨A,cap,rfl,b3,_,bx⟩:=bD
 have J:=FD a1
 have G:c.len=n*P.cellsOf t:=by rw [← ao.e8,J,Dw]
 rcases bx with rfl | ⟨b,o,cs,ty,fr,rfl,b2,Z,ab⟩
 ·refine ⟨[],by simp,G, ?_,fun _=>rfl,fun w2 _=>rF w2⟩
  rw [J];rfl
 ·obtain ⟨l,I,aE⟩:=yT (R:=fun q y=>cs[o+q]? =some y∧(f (q / P.cellsOf t) (q % P.cellsOf t)).Rel P α B w bo y) (n*P.cellsOf t) (fun q a7=>by
   have O:0 < P.cellsOf t:=by
    grind
   obtain ⟨y,e1,U⟩:=ab (q / P.cellsOf t) (q % P.cellsOf t) ((Nat.div_lt_iff_lt_mul O).2 a7) (Nat.mod_lt _ O)
   refine ⟨y, ?_,U⟩
   rw [← e1]
   congr 1
   have:=Nat.div_add_mod q (P.cellsOf t)
   grind)
  refine ⟨l,I,G,aj.oC (by rw [I,ao.e8,G]) (fun i v hi=> ?_),fun _=>rfl,fun w2 b0=>yA I (fun j v b4=>by rw [fR,mL Z];grind) w2 b0⟩
  have a6:i < n*P.cellsOf t:=by rw [← G,← ao.e8];grind
  rw [J,Dv f _ n i a6] at hi
  cases hi
  have M:i < l.length:=by omega
  exact ⟨l[i],List.getElem?_eq_getElem M,zP (aE i l[i] (List.getElem?_eq_getElem M)).2⟩
theorem xF (s:ByteArray):(dw s).length=s.size:=by unfold dw;simp_all
theorem Uu (s:ByteArray) (w2:World):(Builtin.firstCells 1 s.size (.string s)).run P w2= .ok ((dw s).map (Value.int .u8)).toArray w2:=by
 simp only [Builtin.firstCells,Sem.run_pure]
 congr 1
 apply Array.ext'
 have:(s.extract 0 s.size)=s:=by
  simp_all
 rw [this]
 simp [dw]
theorem PV {R:Type} {H:Hp} {t:TypeId} {v:AV} {K:ao→Nat→Option R} {r:R} (h:sF P H t v K=some r):∃ c n,K c n=some r∧c.len=n*P.cellsOf t∧∀ {B0:Nat→Prop} {w0:World} {D:Nat→Prop} {α:Nat→Nat×Nat} {G:Hf} {w:World} {u:Value},(∀ m b,(m,b) ∈ tid false v→m < H.length→G m=H[m]?)→Ok P B0 w0 D α G w→v.Rel P α (Own B0 D α G) w D u→∃ b5,Src P D α (Own B0 D α G) w c n (P.cellsOf t) u b5:=by
 unfold sF at h
 simp only [Bool.cond_eq_ite] at h
 split at h
 ·refine ⟨_,_,h,by simp [ao.len],fun {B0 w0 D α G w u} U O J=> ?_⟩
  rw [show u= .slice none 0 0 from J]
  exact ⟨[],by simp,by simp [ao.len],rfl,fun _=>rfl,fun w2 _=>rF w2⟩
 ·rename_i s
  split at h
  ·rename_i aE
   rw [beq_iff_eq] at aE
   refine ⟨_,_,h,by rw [aE,Nat.mul_one];exact xF s,fun {B0 w0 D α G w u} U O J=> ?_⟩
   rw [show u= .string s from J,aE]
   refine ⟨(dw s).map (Value.int .u8), ?_, ?_, ?_,fun _=>rfl,fun w2 _=>Uu s w2⟩
   ·rw [List.length_map,xF,Nat.mul_one]
   ·show (dw s).length=_;rw [xF,Nat.mul_one]
   ·show aj P α _ w ((dw s).map fun z=>AV.val (.int .u8 z)) D _
    rw [show (dw s).map (fun z=>AV.val (.int .u8 z))=((dw s).map (Value.int .u8)).map AV.val by simp_all]
    exact aj.vals _
  ·cases h
 ·rename_i fl b6 i off len
  split at h
  ·rename_i M
   rw [beq_iff_eq] at M
   subst M
   split at h
   ·rename_i c ty st a6
    split at h
    ·cases h
    ·rename_i c3
     split at h
     ·rename_i Z
      have Z:=of_decide_eq_true Z
      refine ⟨_,_,h,QK c off _ Z,fun {B0 w0 D α G w u} U O J=> ?_⟩
      obtain ⟨hi,cap,c4,rfl,c0,_,ab⟩:=J
      have b2:=(List.getElem?_eq_some_iff.1 a6).1
      have bD:G i=some (.row c ty st):=(U i false (by simp [tid]) b2).trans a6
      obtain ⟨cs,fr,e1,b7,ch,ct,a1⟩:=iB O hi bD (by grind)
      have b1:=aj.len a1
      rw [ao.e8] at b1
      have bx:(((cs.toList.take c.len).drop off).take (len*P.cellsOf t)).length=len*P.cellsOf t:=by
       grind
      have b0:=QK c off (len*P.cellsOf t) Z
      refine ⟨((cs.toList.take c.len).drop off).take (len*P.cellsOf t),bx,b0,by rw [afK];exact aj.take (aj.drop a1 _) _,fun _=>rfl,fun w2 b3=> ?_⟩
      by_cases b4:len=0
      ·subst b4
       rw [rF w2]
       simp
      ·rcases ab with ab | ⟨rfl,ab⟩
       ·omega
       ·refine yA bx (fun j y I=> ?_) w2 b3
        rw [List.getElem?_take] at I
        split at I
        ·rw [List.getElem?_drop,List.getElem?_take] at I
         split at I
         ·rw [Array.getElem?_toList] at I
          rw [fR,mL e1]
          exact I
         ·cases I
        ·cases I
     ·cases h
   ·cases h
  ·cases h
 ·rename_i fl b6 n f
  split at h
  ·rename_i M
   rw [beq_iff_eq] at M
   subst M
   obtain ⟨c,a7,h⟩:=Px h
   exact ⟨_,_,h,by rw [← ao.e8,FD a7,Dw],fun {B0 w0 D α G w u} U O J=>PA a7 J⟩
  ·cases h
 ·cases h
end
end Go.V
namespace Go.V
open Go Go.RowKit
section
variable {P : Program}
theorem Cy {tx:TypeId} (h:mI P tx=true):(∃ e,P.underlying tx=some (.slice e))∨P.underlying tx=some .string:=by
 unfold mI at h
 grind
theorem S5 {ts tx ty e:TypeId} {i:TypeInfo} (O:P.underlying ts=some (.slice e)) (hi:P.info? e=some i) (G:mI P tx=true) {A:Option Addr} {m c:Nat} {u:Value} {w:World} (M:(Builtin.lenOf u).run P w= .ok 0 w) (J:(Builtin.firstCells i.size 0 u).run P w= .ok #[] w) (I:m≤c):
  (Builtin.append_ #[ts,tx] ty #[.slice A m c,u]).run P w= .ok (.slice A m c) w:=by
 rcases Cy G with ⟨U,G⟩ | G <;> cases A <;> simp [Builtin.append_,run_underlying O,run_underlying G,sizeOf,typeInfo,hi,M,J,I,storeCells,Sem.run_pure]
theorem S6 {ts tx ty e:TypeId} {i:TypeInfo} (Z:P.underlying ts=some (.slice e)) (hi:P.info? e=some i) (G:mI P tx=true) {a:Addr} {m c n:Nat} {u:Value} {I:List Value} {w w':World} (O:(Builtin.lenOf u).run P w= .ok n w) (M:(Builtin.firstCells i.size n u).run P w= .ok I.toArray w) (J:m+n≤c)
  (U:(storeCells (a.add (m*i.size)) I).run P w= .ok () w'):
  (Builtin.append_ #[ts,tx] ty #[.slice (some a) m c,u]).run P w= .ok (.slice (some a) (m+n) c) w':=by
 rcases Cy G with ⟨ab,G⟩ | G <;> simp [Builtin.append_,run_underlying Z,run_underlying G,sizeOf,typeInfo,hi,O,M,J,U,Sem.run_pure]
theorem Kv {ts tx ty e:TypeId} {i:TypeInfo} {z:Value} (a7:P.underlying ts=some (.slice e)) (hi:P.info? e=some i) (bx:i.zero=some z) (G:mI P tx=true) {A:Option Addr} {m c n:Nat} {u:Value} {J I:List Value} {w:World} (aE:(Builtin.lenOf u).run P w= .ok n w) (U:(Builtin.firstCells i.size n u).run P w.drew= .ok I.toArray w.drew)
  (a6:(Builtin.firstCells i.size m (.slice A m c)).run P w.drew= .ok J.toArray w.drew) (ab:c < m+n) (b1:m+n≤9223372036854775807) (Z:(m+n)*i.bytes≤140737488355328):
  (Builtin.append_ #[ts,tx] ty #[.slice A m c,u]).run P w= .ok (.slice (some ⟨w.heap.size,0,none⟩) (m+n) (grownCap w (m+n) c e)) (w.drew.alloc (.cells (J.toArray ++ I.toArray ++ Builtin.zeroCells z.cells (grownCap w (m+n) c e - (m+n))) e)):=by
 have a1:¬ (m+n≤c):=by omega
 have O:¬ (9223372036854775807 < ((m:Int)+(n:Int))):=by omega
 have b0:=growslice_fits ab Z
 have M:¬ (281474976710656 < Builtin.nextslicecap (m+n) c*i.bytes):=by omega
 rcases Cy G with ⟨bD,G⟩ | G <;>
 ·simp [Builtin.append_,run_underlying a7,run_underlying G,sizeOf,typeInfo,zeroValue,hi,bx,aE,a1,O,M,Question.forced,U,a6,newRow,grownCap]
  grind
end
end Go.V
namespace Go.V
open Go Go.RowKit
section
variable {R : Type} {P : Program} {ro : Option Nat} {T : List AV} {o : Oper} {H : Hp} {lo : Nat} {k : Kn R} {r : R}
theorem qS {e:TypeId} {l:List AV} (h:zeroCells P e=some l):∃ i z,P.info? e=some i∧i.zero=some z∧l=z.cells.toList.map .val∧P.cellsOf e=i.size∧P.bytesOf e=i.bytes:=by
 unfold zeroCells at h
 split at h
 ·rename_i z G
  cases h
  simp only [zeroValue,typeInfo,bind,Sem.bind,nB,program] at G
  cases hi:P.info? e with
  | none=>rw [hi] at G;cases G
  | some i=>
   rw [hi] at G
   simp only [pure,Sem.bind] at G
   cases I:i.zero with
   | none=>rw [I] at G;cases G
   | some J=>
    rw [I] at G
    simp only [nB,Option.some.injEq] at G
    subst G
    exact ⟨i,J,rfl,I,rfl,by simp [Program.cellsOf,hi],by simp [Program.bytesOf,hi]⟩
 ·cases h
theorem AP {e:TypeId} (h:qR P e=true):∃ i z,P.info? e=some i∧i.zero=some z∧z.cells.size=P.cellsOf e∧P.cellsOf e=i.size∧P.bytesOf e=i.bytes:=by
 unfold qR at h
 split at h
 ·rename_i l G
  obtain ⟨i,z,I,J,rfl,M,O⟩:=qS G
  grind
 ·cases h
theorem wk {c:Call} {s x:Operand} {ts tx:TypeId} (U:o.op= .call c) (G:c.callee= .builtin .append) (ha:c.args.toList= [s,x]) (I:c.argTypes.toList= [ts,tx]) {a:Act} {w w':World} {v:Value} (Z:∀ ty,(Builtin.append_ #[ts,tx] ty #[a.eval s,a.eval x]).run P w= .ok v w'):(execOp a.eval o).run P w= .ok (.value v) w':=by
 obtain ⟨aE,M,J⟩:=c
 simp only at G ha I
 subst G
 have O:M= #[s,x]:=Array.ext' ha
 have ab:J= #[ts,tx]:=Array.ext' I
 subst O ab
 unfold execOp
 rw [U]
 simp [resolve,invoke,builtin,Z,Result.andThen]
theorem Fs {n e:Nat} (h:aU P n e=true):n*P.bytesOf e≤140737488355328∧n≤9223372036854775807:=by
 unfold aU at h
 grind
theorem SZ {c:ao} (h:c.bk=true) {D:Nat→Prop} {α:Nat→Nat×Nat} {B:Nat→Prop} {w:World} {G:List Value} (I:aj P α B w c.a8 D G):∀ y ∈ G,y.oneCell'=true:=by
 cases c with
 | cells l=>exact aj.one h I
 | ints M zs=>
  have:G=zs.map (.int M):=aj.y7 (l:=zs.map (.int M)) (by rw [List.map_map];exact I)
  subst this
  intro y J
  obtain ⟨z,_,rfl⟩:=List.mem_map.1 J
  rfl
 | vals vs=>
  have:G=vs:=aj.y7 I
  subst this
  exact fun y J=>List.all_eq_true.1 h y J
theorem afW {β:Type} (a b c:List β) {m:Nat} (h:m=a.length+b.length):(a ++ b ++ c).take m=a ++ b:=by
 grind
theorem Ml {D:Nat→Prop} {α:Nat→Nat×Nat} {B:Nat→Prop} {w:World} {c:ao} {e:TypeId} {b m n cap sz:Nat} {I G:List Value} {z:Value} (U:w.heap[b]? =some (.cells (I.toArray ++ G.toArray ++ Builtin.zeroCells z.cells (cap - (m+n))) e)) (M:I.length=m*sz) (J:G.length=n*sz) (ab:c.len=(m+n)*sz) (Z:z.cells.size=sz) (aE:m+n≤cap)
  (a1:aj P α B w c.a8 D (I ++ G)):cP P α B w D (.row c e .live) (b,cap*sz):=by
 have O:(I.toArray ++ G.toArray ++ Builtin.zeroCells z.cells (cap - (m+n))).size=cap*sz:=by
  simp only [Array.size_append,List.size_toArray,size_zeroCells,Z,M,J]
  rw [← Nat.add_mul,← Nat.add_mul];grind
 refine .inr ⟨_,_,U,O,fun _ i _=>by simp, ?_, ?_⟩
 ·grind
 ·have:(I.toArray ++ G.toArray ++ Builtin.zeroCells z.cells (cap - (m+n))).toList.take c.len=I ++ G:=by
   rw [Array.toList_append,Array.toList_append]
   exact afW _ _ _ (by grind)
  grind
section
variable {c : Call} {s x : Operand} {ts tx e : TypeId}
theorem F9 (O:o.op= .call c) (b1:c.callee= .builtin .append) (ha:c.args.toList= [s,x]) (c4:c.argTypes.toList= [ts,tx]) (c5:P.underlying ts=some (.slice e)) (b6:mI P tx=true) (dy:qR P e=true) {c' cx:ao} {m n:Nat} (ct:aU P (m+n) e=true) (ep:n≠0)
  (b3:k (.sl false e H.length 0 (m+n)) (H ++ [.row c' e .live])=some r) (c7:∀ {B0:Nat→Prop} {w0:World} {D:Nat→Prop} {α:Nat→Nat×Nat} {G:Hf} {w:World} {u:Value},(∀ m b,(m,b) ∈ tid false (aD T x)→m < H.length→G m=H[m]?)→Ok P B0 w0 D α G w→(aD T x).Rel P α (Own B0 D α G) w D u→∃ U,Src P D α (Own B0 D α G) w cx n (P.cellsOf e) u U)
  (b4:c'.len=(m+n)*P.cellsOf e) (eu:∀ j,(j,true) ∈ tid true (aD T s)→j < H.length)
  (c0:∀ {B0:Nat→Prop} {w0:World} {D:Nat→Prop} {α:Nat→Nat×Nat} {G:Hf} {w:World} {u:Value},(∀ m b,(m,b) ∈ tid true (aD T s)→m < H.length→G m=H[m]?)→Ok P B0 w0 D α G w→(aD T s).Rel P α (Own B0 D α G) w D u→∃ A cap J a8,u= .slice A m cap∧cap=m∧J.length=m*P.cellsOf e∧c'.a8=a8 ++ cx.a8∧aj P α (Own B0 D α G) w a8 D J∧∀ w2,w2.heap=w.heap→(Builtin.firstCells (P.cellsOf e) m u).run P w2= .ok J.toArray w2):
  bm P ro T o H (.some false (tid true (aD T s) ++ tid false (aD T x))) lo k r:=by
 have eg:∀ c,o.op≠ .defer c:=fun c h=>by grind
 obtain ⟨i,z,hi,eb,ea,bx,eh⟩:=AP dy
 obtain ⟨et,b7⟩:=Fs ct
 have ms:s ∈ c.args:=Array.mem_toList_iff.1 (by rw [ha];simp)
 have ed:x ∈ c.args:=Array.mem_toList_iff.1 (by rw [ha];simp)
 refine ⟨_,_,b3,fun eo j I=>List.getElem?_append_left (by omega),fun B0 w0=>DG (fun j I=> ?_) eg rfl (fun h D α a w a6 Z ab=> ?_)⟩
 ·rcases List.mem_append.1 I with I | I
  ·grind
  ·exact absurd I (fP _ _)
 ·have c3:=ab s (by rw [O];simp only [Op.operands,Call.operands,Array.mem_append];exact .inr ms)
  have dx:=ab x (by rw [O];simp only [Op.operands,Call.operands,Array.mem_append];exact .inr ed)
  obtain ⟨A,cap,J,a8,aE,en,b5,b0,ch,b2⟩:=c0 (fun j b I=>a6 j b (List.mem_append_left _ I)) Z c3
  obtain ⟨U,M⟩:=c7 (fun j b I=>a6 j b (List.mem_append_right _ I)) Z dx
  have a1:=grownCap_ge w (m+n) cap e
  refine ⟨w.drew, .cells (J.toArray ++ U.toArray ++ Builtin.zeroCells z.cells (grownCap w (m+n) cap e - (m+n))) e,grownCap w (m+n) cap e*P.cellsOf e, .slice (some ⟨w.heap.size,0,none⟩) (m+n) (grownCap w (m+n) cap e),xx w,fun ds=>by simp,wk O b1 ha c4 (fun ty=> ?_),fun D' α' B' w' a7 c6=> ?_,fun D' α' B' w' bD ec=> ?_⟩
  ·rw [aE]
   exact Kv c5 hi eb b6 (M.lenOf w) (by rw [← bx];exact M.cells _ rfl) (by rw [← bx,← aE];exact b2 _ rfl) (by omega) b7 (by grind)
  ·exact Ml c6 b5 M.len b4 ea a1 (by rw [b0];exact aj.append (aj.mono _ _ a7 ch) (aj.mono _ _ a7 M.rel))
  ·exact ⟨bD,_,0,by rw [ec];rfl,a1,(fun h=>by cases h), .inr ⟨rfl,by grind⟩⟩
theorem Ga (J:o.op= .call c) (aE:c.callee= .builtin .append) (ha:c.args.toList= [s,x]) (b2:c.argTypes.toList= [ts,tx]) (b3:P.underlying ts=some (.slice e)) (bD:mI P tx=true) (b6:qR P e=true) {cx:ao} (bx:k (aD T s) H=some r)
  (b4:∀ {B0:Nat→Prop} {w0:World} {D:Nat→Prop} {α:Nat→Nat×Nat} {I:Hf} {w:World} {u:Value},(∀ m b,(m,b) ∈ tid false (aD T x)→m < H.length→I m=H[m]?)→Ok P B0 w0 D α I w→(aD T x).Rel P α (Own B0 D α I) w D u→∃ O,Src P D α (Own B0 D α I) w cx 0 (P.cellsOf e) u O)
  (c3:∀ j,(j,true) ∈ tid true (aD T s)→j < H.length)
  (b0:∀ {D:Nat→Prop} {α:Nat→Nat×Nat} {B:Nat→Prop} {w:World} {u:Value},(aD T s).Rel P α B w D u→∃ A m cap,u= .slice A m cap∧m≤cap):
  bm P ro T o H (.some false (tid true (aD T s) ++ tid false (aD T x))) lo k r:=by
 have ch:∀ c,o.op≠ .defer c:=fun c h=>by grind
 obtain ⟨i,z,hi,c5,c4,b1,ct⟩:=AP b6
 have ms:s ∈ c.args:=Array.mem_toList_iff.1 (by rw [ha];simp)
 have b7:x ∈ c.args:=Array.mem_toList_iff.1 (by rw [ha];simp)
 refine ⟨_,H,bx,fun _ _ _=>rfl,fun B0 w0=>Mp (fun j G=> ?_) ch (fun h D α a w a7 ab U=> ?_)⟩
 ·rcases List.mem_append.1 G with G | G
  ·grind
  ·exact absurd G (fP _ _)
 ·have Z:=U s (by rw [J];simp only [Op.operands,Call.operands,Array.mem_append];exact .inr ms)
  have b5:=U x (by rw [J];simp only [Op.operands,Call.operands,Array.mem_append];exact .inr b7)
  obtain ⟨O,M⟩:=b4 (fun j b G=>a7 j b (List.mem_append_right _ G)) ab b5
  obtain ⟨A,m,cap,a6,a1⟩:=b0 Z
  refine ⟨a.eval s,wk J aE ha b2 (fun ty=> ?_),Z⟩
  have c0:O= []:=List.eq_nil_of_length_eq_zero (by rw [M.len,Nat.zero_mul])
  rw [a6]
  exact S5 b3 hi bD (M.lenOf w) (by rw [← b1];have:=M.cells w rfl;grind) a1
theorem afc (M:o.op= .call c) (a6:c.callee= .builtin .append) (ha:c.args.toList= [s,x]) (b0:c.argTypes.toList= [ts,tx]) (hint:yI P tx=true) (h:DE P H ts (aD T s) (aD T x) k=some r):
  bm P ro T o H (.some false (tid true (aD T s) ++ tid false (aD T x))) lo k r:=by
 have ct:∀ c,o.op≠ .defer c:=fun c h=>by grind
 unfold DE at h
 split at h
 ·rename_i e aE n bD Z ab
  have b2:=wx bD
  simp only [Bool.cond_eq_ite] at h
  split at h
  ·rename_i U
   rw [Bool.and_eq_true,Bool.and_eq_true,Bool.and_eq_true,decide_eq_true_eq,decide_eq_true_eq] at U
   obtain ⟨⟨⟨dx,bx⟩,b4⟩,c4⟩:=U
   obtain ⟨kn,b1⟩:∃ kn,P.underlying tx=some (.int kn):=by
    unfold yI at hint
    grind
   obtain ⟨i,z,hi,b6,b5,ec,c3⟩:=AP b4
   obtain ⟨dy,ea⟩:=Fs bx
   have ms:s ∈ c.args:=Array.mem_toList_iff.1 (by rw [ha];simp)
   have ch:x ∈ c.args:=Array.mem_toList_iff.1 (by rw [ha];simp)
   refine ⟨_,_,h,fun c7 j J=>List.getElem?_append_left (by omega),fun B0 w0=>DG (fun j J=> ?_) ct rfl (fun h D α a w c5 c0 O=> ?_)⟩
   ·rw [Z,ab] at J;simp [tid] at J
   ·have G:=O s (by rw [M];simp only [Op.operands,Call.operands,Array.mem_append];exact .inr ms)
    have I:=O x (by rw [M];simp only [Op.operands,Call.operands,Array.mem_append];exact .inr ch)
    rw [Z] at G
    rw [ab] at I
    have G:a.eval s= .slice none 0 0:=G
    have I:a.eval x= .int aE n:=I
    have a7:=grownCap_ge w n.toNat 0 e
    have e0:((n.toNat:Nat):Int)=n:=Int.toNat_of_nonneg (by omega)
    refine ⟨w.drew, .cells (Builtin.zeroCells z.cells n.toNat ++ Builtin.zeroCells z.cells (grownCap w n.toNat 0 e - n.toNat)) e,grownCap w n.toNat 0 e*P.cellsOf e, .slice (some ⟨w.heap.size,0,none⟩) n.toNat (grownCap w n.toNat 0 e),xx w,fun ds=>by simp,wk M a6 ha b0 (fun ty=> ?_),fun D' α' B' w' c6 b3=> ?_,fun D' α' B' w' a1 b7=> ?_⟩
    ·rw [G,I]
     have eb:=Lib.run_append_nil_zeros w ts tx ty e i z aE kn b2 b1 hi b6 n.toNat (by omega) (by omega) (by omega) (by grind)
     grind
    ·refine .inr ⟨_,_,b3, ?_,fun _ i _=>by simp,Nat.zero_le _, ?_⟩
     ·simp only [Array.size_append,size_zeroCells,b5]
      rw [← Nat.add_mul];grind
     ·show aj P _ _ _ [] _ (List.take 0 _)
      rw [List.take_zero]
      exact aj.vals []
    ·exact ⟨a1,_,0,by rw [b7];rfl,a7,(fun h=>by cases h), .inr ⟨rfl,by grind⟩⟩
  ·cases h
 ·cases h
end
end
end Go.V
namespace Go.V
open Go Go.RowKit
section
variable {R : Type} {P : Program} {ro : Option Nat} {T : List AV} {o : Oper} {H : Hp} {lo : Nat} {k : Kn R} {r : R}
variable {c : Call} {s x : Operand} {ts tx e : TypeId}
theorem aeX (bx:o.op= .call c) (c7:c.callee= .builtin .append) (ha:c.args.toList= [s,x]) (ep:c.argTypes.toList= [ts,tx]) (et:P.underlying ts=some (.slice e)) (eg:mI P tx=true) (hD:qR P e=true) {G c' cx:ao} {i len n:Nat} {fl:Bool} (hq:aU P (len+n) e=true)
  (eh:aD T s= .sl fl e i 0 len) (c0:H[i]? =some (.row G e .live)) (hT:¬ i < lo) (hc:len*P.cellsOf e≤G.len) (hn:cx.bk=true) (fa:G.app (intKind P e) (len*P.cellsOf e) cx=some c')
  (gn:k (.sl false e H.length 0 (len+n)) (H.set i (.row G e .dead) ++ [.row c' e .live])=some r) (hA:∀ {B0:Nat→Prop} {w0:World} {D:Nat→Prop} {α:Nat→Nat×Nat} {a6:Hf} {w:World} {u:Value},(∀ m b,(m,b) ∈ tid false (aD T x)→m < H.length→a6 m=H[m]?)→Ok P B0 w0 D α a6 w→(aD T x).Rel P α (Own B0 D α a6) w D u→∃ U,Src P D α (Own B0 D α a6) w cx n (P.cellsOf e) u U):
  bm P ro T o H (.some false (tid true (aD T s) ++ tid false (aD T x))) lo k r:=by
 have ev:∀ c,o.op≠ .defer c:=fun c h=>by grind
 obtain ⟨ti,z,hi,hF,hE,eo,hK⟩:=AP hD
 obtain ⟨hW,ho⟩:=Fs hq
 have ms:s ∈ c.args:=Array.mem_toList_iff.1 (by rw [ha];simp)
 have hG:x ∈ c.args:=Array.mem_toList_iff.1 (by rw [ha];simp)
 have hd:i < H.length:=(List.getElem?_eq_some_iff.1 c0).1
 obtain ⟨c6,hN⟩:=xv fa hc
 have hf:∀ m,(m,true) ∈ (tid true (aD T s) ++ tid false (aD T x))↔m=i:=by
  intro m
  rw [List.mem_append,eh]
  constructor
  ·rintro (h | h)
   ·simpa [tid] using h
   ·exact absurd h (fP _ _)
  ·rintro rfl;left;simp [tid]
 refine ⟨_,_,gn,fun hR m ch=> ?_,fun B0 w0=> ⟨by simp,fun m ch hU=> ?_,fun h ea ro D α a w K Q aE hh c5 c3=> ?_⟩⟩
 ·grind
 ·grind
 ·have e0:cB h H (H.set i (.row G e .dead) ++ [.row c' e .live]) (tid true (aD T s) ++ tid false (aD T x))=bh (bh h i (some (.row G e .dead))) H.length (some (.row c' e .live)):=by
   funext m
   unfold cB bh
   grind
  have ed:¬ D H.length:=hh.1 _ (Nat.le_refl _) (.inl (by simp))
  have b2:h i=some (.row G e .live):=(ea i ⟨true,(hf i).2 rfl⟩ hd).trans c0
  have en:=c5 s (by rw [bx];simp only [Op.operands,Call.operands,Array.mem_append];exact .inr ms)
  have hB:=c5 x (by rw [bx];simp only [Op.operands,Call.operands,Array.mem_append];exact .inr hG)
  obtain ⟨U,M⟩:=hA (fun m b ch=>ea m ⟨b,List.mem_append_right _ ch⟩) aE hB
  rw [eh] at en
  obtain ⟨ab,cap,bD,b4,hL,_,J⟩:=en
  obtain ⟨cs,fr,e1,hI,ez,hJ,b0⟩:=iB aE ab b2 rfl
  have hQ:=M.UP
  have hj:=M.len
  have hY:(len+n)*P.cellsOf e=len*P.cellsOf e+n*P.cellsOf e:=Nat.add_mul _ _ _
  have fc:=aj.len b0
  rw [List.length_take,Array.length_toList,ao.e8] at fc
  by_cases b5:len+n≤cap
  ·-- in place
   have hM:(len+n)*P.cellsOf e≤cap*P.cellsOf e:=Nat.mul_le_mul_right _ b5
   have ct:∀ (w':World) (O:Array Value),(storeCells ((⟨(α i).1,bD,none⟩:Addr).add (len*P.cellsOf e)) U).run P w= .ok () w'→w'.heap[(α i).1]? =some (.cells O e fr)→O.size=cs.size→O.toList.take c'.len=cs.toList.take (len*P.cellsOf e) ++ U→(∀ k,k≠(α i).1→w'.heap[k]? =w.heap[k]?)→(∀ B,B≤(α i).1→bw B w w')→w'.heap.size=w.heap.size→(cap=0∨bD=0∧cap*P.cellsOf e≤(α i).2)→(len+n)*P.cellsOf e≤(α i).2→o.wpIn (W ro) 0 P a w K Q:=by
    intro w' O hX ht eu hv hx hy hz hV hS
    obtain ⟨b3,b6⟩:=za (w':=w') aE ab (k1:= .row c' e .live) b2 rfl rfl hz hx hy (fun Z=> .inr ⟨O,fr,ht,by omega,ez,by omega,by
     rw [hv,c6]
     have eL:cs.toList.take (len*P.cellsOf e)=(cs.toList.take G.len).take (len*P.cellsOf e):=by grind
     rw [eL]
     exact aj.append (aj.take (aj.mono _ _ Z b0) _) (aj.mono _ _ Z M.rel)⟩)
    obtain ⟨a1,a7⟩:=ab3 b3 ab ed (c':=G) (eV _ _ _)
    have b1:bh (bh (bh h i (some (.row c' e .live))) i (some (.row G e .dead))) H.length (some (.row c' e .live))=bh (bh h i (some (.row G e .dead))) H.length (some (.row c' e .live)):=by
     funext m
     unfold bh
     grind
    rw [b1] at a1 a7
    refine sZ ev (wk bx c7 ha ep (v:= .slice (some ⟨(α i).1,bD,none⟩) (len+n) cap) (w':=w') (fun ty=> ?_)) (c3 _ _ w' _ (by rw [e0];exact a1) ?_ (by rw [e0];exact b6.trans a7) ?_)
    ·rw [b4]
     exact S6 et hi eg (M.lenOf w) (by rw [← eo];exact M.cells w rfl) b5 (by grind)
    ·rintro j (I | rfl)
     ·exact .inl I
     grind
    ·refine ⟨.inr rfl,cap,bD,by rw [k9],b5,(fun h=>by cases h), ?_⟩
     rw [k9,Nat.zero_add]
     grind
   rcases J with J | ⟨rfl,J⟩
   ·-- the slice has no room at all:nothing is appended to nothing
    have b7:len=0:=by omega
    have hg:n=0:=by omega
    subst b7 hg
    have hl:U= []:=List.eq_nil_of_length_eq_zero (by grind)
    subst hl
    have hP:c'.len=0:=by grind
    exact ct w cs rfl e1 rfl (by grind) (fun _ _=>rfl) (fun B _=>bw.refl B w) rfl (.inl J) (by grind)
   ·rw [Nat.zero_add] at J
    obtain ⟨w',O,eN,eR,e2,e3,e4,e5⟩:=zX (P:=P) (α i).1 (len*P.cellsOf e) e fr U 0 w cs e1 (by omega) (by grind) (SZ hn M.rel)
    have hr:O.size=cs.size:=by
     have:=congrArg List.length e2
     simp only [Array.length_toList,List.length_append,List.length_take,List.length_drop] at this
     omega
    refine ct w' O (by rw [fR,Nat.zero_add];exact eN) eR hr ?_ e3 e4 e5 (.inr ⟨rfl,J⟩) (by omega)
    grind
  ·-- a new array
   have dy:=grownCap_ge w (len+n) cap e
   have ec:((cs.toList.take G.len).take (len*P.cellsOf e)).length=len*P.cellsOf e:=by
    grind
   have fs:∀ w2,w2.heap=w.heap→(Builtin.firstCells (P.cellsOf e) len (a.eval s)).run P w2= .ok ((cs.toList.take G.len).take (len*P.cellsOf e)).toArray w2:=by
    intro w2 eu
    rw [b4]
    by_cases b7:len=0
    ·subst b7
     rw [rF w2]
     simp
    ·rcases J with J | ⟨rfl,J⟩
     ·omega
     ·refine yA ec (fun j y I=> ?_) w2 eu
      rw [List.getElem?_take] at I
      split at I
      ·rw [List.getElem?_take] at I
       split at I
       ·rw [Array.getElem?_toList] at I
        rw [fR,mL e1,Nat.zero_add]
        exact I
       ·cases I
      ·cases I
   obtain ⟨b3,b6⟩:=oF aE (xx w)
   obtain ⟨a1,a7⟩:=Ej b3 ed (o:= .cells (((cs.toList.take G.len).take (len*P.cellsOf e)).toArray ++ U.toArray ++ Builtin.zeroCells z.cells (grownCap w (len+n) cap e - (len+n))) e) (fun ds=>by simp) (k:= .row c' e .live) rfl (sz:=grownCap w (len+n) cap e*P.cellsOf e) (fun D' α' B' w' Z hs=>by
    have eb:eZ D D' α α' (Own B0 D α h) B' w w':= ⟨Z.le,Z.same,fun b cs ty fr e6 e7=>Z.row b cs ty fr e6 e7⟩
    exact Ml hs ec hj (by grind) hE dy (by rw [c6];exact aj.append (aj.take (aj.mono _ _ eb b0) _) (aj.mono _ _ eb M.rel)))
   have gf:i≠H.length:=by omega
   obtain ⟨c4,dx⟩:=NL a1 (i:=i) (.inl ab) (c':=G) (st:= .dead) (by rw [bS _ _ gf];exact b2) (.inl rfl)
   have b1:bh (bh h H.length (some (.row c' e .live))) i (some (.row G e .dead))=bh (bh h i (some (.row G e .dead))) H.length (some (.row c' e .live)):=by
    funext m
    unfold bh
    grind
   rw [b1] at c4 dx
   refine sZ ev (wk bx c7 ha ep (v:= .slice (some ⟨w.heap.size,0,none⟩) (len+n) (grownCap w (len+n) cap e)) (fun ty=> ?_)) (c3 _ _ _ _ (by rw [e0];exact c4) ?_ (by rw [e0];exact (b6.trans a7).trans dx) ?_)
   ·have fv:=fs w.drew rfl
    rw [b4] at fv ⊢
    exact Kv et hi hF eg (M.lenOf w) (by rw [← eo];exact M.cells _ rfl) (by grind) (by omega) ho (by grind)
   ·rintro j (I | rfl)
    ·exact .inl I
    grind
   ·exact ⟨.inr rfl,_,0,by rw [k9];rfl,dy,(fun h=>by cases h), .inr ⟨rfl,by rw [k9,Nat.zero_add];grind⟩⟩
end
end Go.V
