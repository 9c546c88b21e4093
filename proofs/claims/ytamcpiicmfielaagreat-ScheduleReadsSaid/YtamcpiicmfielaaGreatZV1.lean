import Derived.RangeFuncRecord
import Derived.Below
import Derived.OrdersIn
import Derived.Laws.Cells
import Derived.Laws.Append
import Derived.Laws.MakeOwn
import Derived.KernelRfl
import Derived.ChangeKeysEq
import Derived.Laws.Slices
import Derived.Laws.Strings2
import Derived.Laws.StructEq
import Derived.Laws.Concat
import Derived.Laws.BytesString
import Derived.Lib.AppendZeros
set_option linter.unusedVariables false
set_option linter.unusedSimpArgs false
namespace Go.V
open Go Go.RowKit
def mN (P:Program) {α:Type} :Sem α→Option α
 | .pure a=>some a
 | .program k=>mN P (k P)
 | .mark _ k=>mN P k
 | _=>none
theorem Zy (P:Program) {α:Type} (s:Sem α):∀ {a:α},mN P s=some a→∀ w,s.run P w= .ok a w:=by
 induction s with
 | pure a=>intro b h w;simp only [mN,Option.some.injEq] at h;subst h;rfl
 | program k j=>intro b h w;exact j P h w
 | mark m k j=>intro b h w;exact j h w
 | _=>intro b h;simp [mN] at h
inductive AV where
 | any
 | val (v:Value)
 | ptr (i off:Nat)
 | sl (full:Bool) (t:TypeId) (i off len:Nat)
 | lst (full:Bool) (t:TypeId) (n:Nat) (f:Nat→Nat→AV)
 | eptr (t:TypeId) (n:Nat) (f:Nat→Nat→AV) (j off:Nat)
 | agg (cs:List AV)
 | tup (vs:List AV)
 | clo (fn:Fn) (first captured:List AV)
 | yld (i:Nat)
 deriving Inhabited
def dG (P:Program) (t:TypeId):Bool:=match P.underlying t with | some (.struct _) | some (.array _ _)=>true | _=>false
def bh:Nat→Prop:=fun _=>False
mutual
def AV.Rel (P:Program) (α:Nat→Nat×Nat) (B:Nat→Prop) (w:World):AV→(Nat→Prop)→Value→Prop
 | .any,_,_=>True
 | .val v,_,x=>x=v
 | .ptr i off,D,x=>D i∧x= .pointer (some ⟨(α i).1,off,none⟩)
 | .sl I t i off len,D,x=>D i∧∃ cap o,x= .slice (some ⟨(α i).1,o,none⟩) len cap∧len≤cap∧(I=true→cap=len)∧(cap=0∨o=off∧off+cap*P.cellsOf t≤(α i).2)
 | .lst I t n f,_,x=>∃ A cap,x= .slice A n cap∧n≤cap∧(I=true→cap=n)∧(n=0∨∃ b o cs ty fr,A=some ⟨b,o,none⟩∧¬ B b∧w.heap[b]? =some (.cells cs ty fr)∧
   ∀ G k,G < n→k < P.cellsOf t→∃ y,cs[o+G*P.cellsOf t+k]? =some y∧(f G k).Rel P α B w bh y)
 | .eptr t n f G off,_,x=>G < n∧∃ b o cs ty fr,x= .pointer (some ⟨b,o+G*P.cellsOf t+off,none⟩)∧¬ B b∧w.heap[b]? =some (.cells cs ty fr)∧
   ∀ G k,G < n→k < P.cellsOf t→∃ y,cs[o+G*P.cellsOf t+k]? =some y∧(f G k).Rel P α B w bh y
 | .agg cs,D,x=>∃ j:Array Value,x= .agg j∧ao P α B w cs D j.toList
 | .tup vs,D,x=>∃ j:Array Value,x= .tuple j∧ao P α B w vs D j.toList
 | .clo N M cap,D,x=>∃ J j:Array Value,x= .func N J j∧ao P α B w M D J.toList∧ao P α B w cap D j.toList
 | .yld i,D,x=>D i∧x= .func (.yield (α i).1) #[] #[]
def ao (P:Program) (α:Nat→Nat×Nat) (B:Nat→Prop) (w:World):List AV→(Nat→Prop)→List Value→Prop
 | [],_,j=>j= []
 | v :: vs,D,j=>∃ y zs,j=y :: zs∧v.Rel P α B w D y∧ao P α B w vs D zs
end
section
variable {P : Program} {D D' : Nat → Prop} {α α' : Nat → Nat × Nat} {B B' : Nat → Prop} {w w' : World}
structure eJ (D D':Nat→Prop) (α α':Nat→Nat×Nat) (B B':Nat→Prop) (w w':World):Prop where
 le:∀ i,D i→D' i
 same:∀ i,D i→α' i=α i
 row:∀ b cs ty fr,w.heap[b]? =some (.cells cs ty fr)→¬ B b→¬ B' b∧w'.heap[b]? =some (.cells cs ty fr)
theorem eJ.no (h:eJ D D' α α' B B' w w'):eJ bh bh α α' B B' w w':= ⟨fun _ h=>h,fun _ h=>h.elim,h.row⟩
mutual
theorem AV.Rel.mono:∀ (v:AV) (x:Value) {D D':Nat→Prop} {α α':Nat→Nat×Nat} {B B':Nat→Prop} {w w':World},eJ D D' α α' B B' w w'→v.Rel P α B w D x→v.Rel P α' B' w' D' x
 | .any,x,_,_,_,_,_,_,_,_,h,k=>trivial
 | .val v,x,_,_,_,_,_,_,_,_,h,k=>k
 | .ptr i off,x,_,_,_,_,_,_,_,_,h,k=> ⟨h.le i k.1,by rw [h.same i k.1];exact k.2⟩
 | .sl a4 t i off len,x,_,_,_,_,_,_,_,_,h,k=> ⟨h.le i k.1,by rw [h.same i k.1];exact k.2⟩
 | .lst a4 t n f,x,_,_,_,_,_,_,_,_,h,k=>by
  obtain ⟨A,cap,G,I,M,O⟩:=k
  refine ⟨A,cap,G,I,M, ?_⟩
  rcases O with O | ⟨b,o,cs,ty,fr,S,U,Z,ab⟩
  ·exact .inl O
  ·have:=h.row b cs ty fr Z U
   refine .inr ⟨b,o,cs,ty,fr,S,this.1,this.2,fun J k a1 a2=> ?_⟩
   obtain ⟨y,a0,N⟩:=ab J k a1 a2
   exact ⟨y,a0,AV.Rel.mono (f J k) y h.no N⟩
 | .eptr t n f J off,x,_,_,_,_,_,_,_,_,h,k=>by
  obtain ⟨a5,b,o,cs,ty,fr,S,U,Z,ab⟩:=k
  have:=h.row b cs ty fr Z U
  refine ⟨a5,b,o,cs,ty,fr,S,this.1,this.2,fun J k a1 a2=> ?_⟩
  obtain ⟨y,a0,N⟩:=ab J k a1 a2
  exact ⟨y,a0,AV.Rel.mono (f J k) y h.no N⟩
 | .agg cs,x,_,_,_,_,_,_,_,_,h,k=>by
  obtain ⟨j,G,I⟩:=k
  exact ⟨j,G,ao.mono cs _ h I⟩
 | .tup cs,x,_,_,_,_,_,_,_,_,h,k=>by
  obtain ⟨j,G,I⟩:=k
  exact ⟨j,G,ao.mono cs _ h I⟩
 | .clo a7 a3 cap,x,_,_,_,_,_,_,_,_,h,k=>by
  obtain ⟨a6,j,G,I,M⟩:=k
  exact ⟨a6,j,G,ao.mono a3 _ h I,ao.mono cap _ h M⟩
 | .yld i,x,_,_,_,_,_,_,_,_,h,k=> ⟨h.le i k.1,by rw [h.same i k.1];exact k.2⟩
theorem ao.mono:∀ (vs:List AV) (j:List Value) {D D':Nat→Prop} {α α':Nat→Nat×Nat} {B B':Nat→Prop} {w w':World},eJ D D' α α' B B' w w'→ao P α B w vs D j→ao P α' B' w' vs D' j
 | [],j,_,_,_,_,_,_,_,_,h,k=>k
 | v :: vs,j,_,_,_,_,_,_,_,_,h,k=>by
  obtain ⟨y,zs,G,I,M⟩:=k
  exact ⟨y,zs,G,AV.Rel.mono v y h I,ao.mono vs zs h M⟩
end
theorem ao.get:∀ {vs:List AV} {j:List Value},ao P α B w vs D j→∀ {i:Nat} {v:AV},vs[i]? =some v→∃ y,j[i]? =some y∧v.Rel P α B w D y
 | [],j,k,i,v,h=>by simp at h
 | u :: vs,j,k,i,v,h=>by
  obtain ⟨y,zs,rfl,G,I⟩:=k
  cases i with
  | zero=>simp only [List.getElem?_cons_zero,Option.some.injEq] at h;subst h;exact ⟨y,rfl,G⟩
  | succ i=>rw [List.getElem?_cons_succ] at h;rw [List.getElem?_cons_succ];exact ao.get I h
theorem ao.len:∀ {vs:List AV} {j:List Value},ao P α B w vs D j→j.length=vs.length
 | [],j,k=>by rw [show j= [] from k];rfl
 | u :: vs,j,k=>by
  obtain ⟨y,zs,rfl,I,G⟩:=k
  simp [ao.len G]
theorem ao.set:∀ {vs:List AV} {j:List Value},ao P α B w vs D j→∀ (i:Nat) {v:AV} {y:Value},v.Rel P α B w D y→ao P α B w (vs.set i v) D (j.set i y)
 | [],j,k,i,v,y,h=>by rw [show j= [] from k];rfl
 | u :: vs,j,k,i,v,y,h=>by
  obtain ⟨z,zs,rfl,I,G⟩:=k
  cases i with
  | zero=>exact ⟨y,zs,rfl,h,G⟩
  | succ i=>exact ⟨z,zs.set i y,rfl,I,ao.set G i h⟩
theorem ao.vals:∀ (l:List Value),ao P α B w (l.map .val) D l
 | []=>rfl
 | v :: l=> ⟨v,l,rfl,rfl,ao.vals l⟩
theorem ao.yb:∀ {l j:List Value},ao P α B w (l.map .val) D j→j=l
 | [],j,k=>k
 | v :: l,j,k=>by
  obtain ⟨z,zs,rfl,G,I⟩:=k
  rw [show z=v from G,ao.yb I]
theorem ao.append:∀ {vs G:List AV} {j zs:List Value},ao P α B w vs D j→ao P α B w G D zs→ao P α B w (vs ++ G) D (j ++ zs)
 | [],G,j,zs,k,h=>by rw [show j= [] from k];exact h
 | v :: vs,G,j,zs,k,h=>by
  obtain ⟨y,M,rfl,I,J⟩:=k
  exact ⟨y,M ++ zs,rfl,I,ao.append J h⟩
theorem ao.take:∀ {vs:List AV} {G:List Value},ao P α B w vs D G→∀ k,ao P α B w (vs.take k) D (G.take k)
 | [],G,k,j=>by rw [show G= [] from k];simp [ao]
 | v :: vs,G,k,j=>by
  obtain ⟨y,zs,rfl,I,J⟩:=k
  cases j with
  | zero=>rfl
  | succ j=>exact ⟨y,zs.take j,rfl,I,ao.take J j⟩
theorem ao.drop:∀ {vs:List AV} {j:List Value},ao P α B w vs D j→∀ k,ao P α B w (vs.drop k) D (j.drop k)
 | [],j,k,G=>by rw [show j= [] from k];simp [ao]
 | v :: vs,j,k,G=>by
  obtain ⟨y,zs,rfl,J,I⟩:=k
  cases G with
  | zero=>exact ⟨y,zs,rfl,J,I⟩
  | succ G=>exact ao.drop I G
theorem ao.nG:∀ {vs:List AV} {j:List Value},j.length=vs.length→(∀ (i:Nat) (v:AV),vs[i]? =some v→∃ y,j[i]? =some y∧v.Rel P α B w D y)→ao P α B w vs D j
 | [],j,G,h=>List.eq_nil_of_length_eq_zero G
 | u :: vs, [],G,h=>by simp at G
 | u :: vs,y :: j,G,h=>by
  obtain ⟨N,I,J⟩:=h 0 u rfl
  simp only [List.getElem?_cons_zero,Option.some.injEq] at I
  subst I
  exact ⟨y,j,rfl,J,ao.nG (by simpa using G) (fun i v M=>by have:=h (i+1) v (by simpa using M);simpa using this)⟩
end
def toAV1:Value→AV
 | .agg cs=> .agg (cs.toList.map .val)
 | v=> .val v
def toAV:Value→AV
 | .tuple vs=> .tup (vs.toList.map toAV1)
 | v=>toAV1 v
def isVal:AV→Bool
 | .val _=>true
 | _=>false
def rP:AV→Value
 | .val v=>v
 | _=>undef
def toVal:AV→Option Value
 | .val v=>some v
 | .agg cs=>bif cs.all isVal then some (.agg (cs.map rP).toArray) else none
 | _=>none
section
variable {P : Program} {D : Nat → Prop} {α : Nat → Nat × Nat} {B : Nat → Prop} {w : World}
theorem toAV1_rel (v:Value):(toAV1 v).Rel P α B w D v:=by
 cases v with
 | agg cs=>exact ⟨cs,rfl,ao.vals _⟩
 | _=>rfl
theorem toAV_rel (v:Value):(toAV v).Rel P α B w D v:=by
 cases v with
 | agg cs=>exact ⟨cs,rfl,ao.vals _⟩
 | tuple vs=>
  refine ⟨vs,rfl, ?_⟩
  generalize vs.toList=l
  induction l with
  | nil=>rfl
  | cons v l j=>exact ⟨v,l,rfl,toAV1_rel v,j⟩
 | _=>rfl
theorem ao.Jh:∀ {cs:List AV} {j:List Value},cs.all isVal=true→ao P α B w cs D j→j=cs.map rP
 | [],j,h,k=>k
 | c :: cs,j,h,k=>by
  obtain ⟨y,zs,rfl,G,I⟩:=k
  rw [List.all_cons,Bool.and_eq_true] at h
  rw [List.map_cons,ao.Jh h.2 I]
  cases c with
  | val v=>rw [show y=v from G];rfl
  | _=>simp [isVal] at h
theorem toVal_rel {u:AV} {x v:Value} (h:toVal u=some v) (k:u.Rel P α B w D x):x=v:=by
 cases u with
 | val v=>cases h;exact k
 | agg cs=>
  simp only [toVal] at h
  cases j:cs.all isVal with
  | false=>rw [j] at h;cases h
  | true=>
   rw [j] at h
   cases h
   obtain ⟨I,rfl,G⟩:=k
   rw [← ao.Jh j G]
 | _=>cases h
end
inductive aC where
 | cells (l:List AV)
 | ints (k:IntKind) (zs:List Int)
 | vals (vs:List Value)
 deriving Inhabited
def aC.a9:aC→List AV
 | .cells l=>l
 | .ints k zs=>zs.map fun z=> .val (.int k z)
 | .vals vs=>vs.map .val
def aC.len:aC→Nat
 | .cells l=>l.length
 | .ints _ zs=>zs.length
 | .vals vs=>vs.length
theorem aC.eK (c:aC):c.a9.length=c.len:=by cases c <;> simp [aC.a9,aC.len]
inductive rV where
 | live | froz | dead
 deriving DecidableEq,Inhabited
inductive Jump where
 | ret
 | exit (id:Nat)
def Jump.code:Jump→Code
 | .ret=> .ret
 | .exit id=> .exit id
structure Rec where
 T:List AV
 params:Array Tmp
 g:FuncId
 path:List Bool
 st:LoopState
 bN:Option Jump
inductive bG where
 | row (c:aC) (ty:TypeId) (st:rV)
 | loop (r:Rec)
def bG.isLive:bG→Bool
 | .row _ _ .live=>true
 | .loop _=>true
 | _=>false
def bG.jH:bG→Bool
 | .row _ _ .froz=>true
 | _=>false
abbrev Hp:=List bG
abbrev Hf:=Nat→Option bG
def child:Bool→Code→Option Code
 | false, .seq a _=>some a
 | true, .seq _ b=>some b
 | false, .cond _ a _=>some a
 | true, .cond _ _ b=>some b
 | false, .block _ a=>some a
 | false, .loop a=>some a
 | false, .scope a=>some a
 | false, .rangeFunc _ _ a _=>some a
 | true, .rangeFunc _ _ _ b=>some b
 | _,_=>none
def aJ (P:Program) (g:FuncId):List Bool→Option Code
 | []=>(P.funcs[g]?).bind (·.body)
 | b :: p=>(aJ P g p).bind (child b)
def aQ (D:Nat→Prop) (α:Nat→Nat×Nat) (h:Hf) (b:Nat):Prop:=∃ i k,D i∧h i=some k∧k.isLive=true∧(α i).1=b
def Own (B0:Nat→Prop) (D:Nat→Prop) (α:Nat→Nat×Nat) (h:Hf) (b:Nat):Prop:=B0 b∨aQ D α h b
def cM (P:Program) (α:Nat→Nat×Nat) (B:Nat→Prop) (w:World) (D:Nat→Prop) (k:bG) (a:Nat×Nat):Prop:=
 match k with
 | .row c ty st=>st= .dead∨∃ cs fr,w.heap[a.1]? =some (.cells cs ty fr)∧cs.size=a.2∧(st= .live→∀ i,i < a.2→¬ (fr.1≤i∧i < fr.2))∧c.len≤a.2∧ao P α B w c.a9 D (cs.toList.take c.len)
 | .loop r=>∃ L,w.heap[a.1]? =some (.loop L)∧L.state=r.st∧L.pending=r.bN.map Jump.code∧L.params=r.params∧(∃ f ps,aJ P r.g r.path=some (.rangeFunc f ps L.assign L.body))∧ao P α B w r.T D L.tmps.toList
structure Ok (P:Program) (B0:Nat→Prop) (w0:World) (D:Nat→Prop) (α:Nat→Nat×Nat) (h:Hf) (w:World):Prop where
 lt:∀ i,D i→∃ k,h i=some k
 below:Below w0.heap.size w0 w
 cJ:∀ b,B0 b→b < w.heap.size∧∀ ds,w.heap[b]?≠some (.deferred ds)
 sep:∀ b,B0 b→¬ aQ D α h b
 fresh:∀ i,D i→w0.heap.size≤(α i).1∧(α i).1 < w.heap.size
 inj:∀ i j k l,D i→D j→h i=some k→h j=some l→k.isLive=true→l.isLive=true→(α i).1=(α j).1→i=j
 cV:∀ i k,D i→h i=some k→k.jH=true→¬ Own B0 D α h (α i).1
 cN:∀ i k,D i→h i=some k→cM P α (Own B0 D α h) w D k (α i)
structure bB (D D':Nat→Prop) (α α':Nat→Nat×Nat) (C C':Nat→Prop) (w w':World):Prop where
 le:∀ i,D i→D' i
 same:∀ i,D i→α' i=α i
 block:∀ b o,w.heap[b]? =some o→¬ C b→¬ C' b∧w'.heap[b]? =some o
section
variable {P : Program} {D D' D'' : Nat → Prop} {α α' α'' : Nat → Nat × Nat} {C C' C'' : Nat → Prop} {h h' : Hf} {w w' w'' : World}
theorem bB.keeps (B0:Nat→Prop) (k:bB D D' α α' (aQ D α h) (aQ D' α' h') w w'):eJ D D' α α' (Own B0 D α h) (Own B0 D' α' h') w w':=
 ⟨k.le,k.same,fun b cs ty fr I j=>have G:=k.block b _ I (fun h=>j (.inr h)); ⟨fun h=>h.elim (fun h=>j (.inl h)) G.1,G.2⟩⟩
theorem bB.refl (D:Nat→Prop) (α:Nat→Nat×Nat) (C:Nat→Prop) (w:World):bB D D α α C C w w:= ⟨fun _ h=>h,fun _ _=>rfl,fun _ _ h k=> ⟨k,h⟩⟩
theorem bB.trans (h:bB D D' α α' C C' w w') (k:bB D' D'' α' α'' C' C'' w' w''):bB D D'' α α'' C C'' w w'':=
 ⟨fun i j=>k.le i (h.le i j),fun i j=>(k.same i (h.le i j)).trans (h.same i j),fun b o I J=>have G:=h.block b o I J;k.block b o G.2 G.1⟩
end
structure Fr where
 n:Nat
 D:Nat→Prop
 α:Nat→Nat×Nat
 C:Nat→Prop
 w:World
def Marks (n:Nat) (w:World) (ds:List Deferred):Prop:=n≤w.heap.size∧∃ j:List Nat,ds=j.map (fun r=> { target:= .collected r,args:= #[] })∧j.Nodup∧∀ r ∈ j,n≤r∧w.heap[r]? =some (.deferred (some []))
def cv (P:Program) (B0:Nat→Prop) (w0:World) (F:Fr) (T:List AV) (h:Hf) (a:Act) (w:World):Prop:=
 Marks F.w.heap.size w a.defers∧∃ D α,Ok P B0 w0 D α h w∧ao P α (Own B0 D α h) w T D a.tmps.toList∧bB F.D D F.α α F.C (aQ D α h) F.w w∧∀ i,D i→i < F.n→F.D i
section
variable {P : Program} {B0 : Nat → Prop} {w0 : World} {D D' : Nat → Prop} {α α' : Nat → Nat × Nat} {h h' : Hf} {w w' : World}
theorem C8 (N:Ok P B0 w0 D α h w) {r:Nat} {ds:Option (List Deferred)} (G:w.heap[r]? =some (.deferred ds)):¬ aQ D α h r:=by
 rintro ⟨i,k,I,J,M,rfl⟩
 have:=N.cN i k I J
 cases k with
 | row c ty st=>
  rcases this with rfl | ⟨cs,fr,j,_⟩
  ·cases M
  ·rw [G] at j;cases j
 | loop L=>obtain ⟨O,j,_⟩:=this;rw [G] at j;cases j
theorem KM (O:Ok P B0 w0 D α h w) (M:Ok P B0 w0 D' α' h' w') (j:bB D D' α α' (aQ D α h) (aQ D' α' h') w w'):w.heap.size≤w'.heap.size:=by
 refine Nat.le_of_not_lt fun N=> ?_
 by_cases G:aQ D α h w'.heap.size
 ·obtain ⟨i,k,I,_,_,e⟩:=G
  have:=(M.fresh i (j.le i I)).2
  rw [j.same i I] at this
  omega
 ·have J:=(j.block _ _ (Array.getElem?_eq_getElem N) G).2
  have:=(Array.getElem?_eq_some_iff.1 J).1
  omega
theorem Marks.mono {n:Nat} {ds:List Deferred} (S:Marks n w ds) (I:Ok P B0 w0 D α h w) (U:Ok P B0 w0 D' α' h' w') (J:bB D D' α α' (aQ D α h) (aQ D' α' h') w w'):Marks n w' ds:=by
 obtain ⟨M,Z,N,O,j⟩:=S
 exact ⟨Nat.le_trans M (KM I U J),Z,N,O,fun r G=> ⟨(j r G).1,(J.block r _ (j r G).2 (C8 I (j r G).2)).2⟩⟩
end
theorem ad9 {P : Program} {w : World} {tp ti ty e : TypeId} {b : Nat} {kn : IntKind} {z : Int} {n : Nat} {s : ByteArray} (O : P.underlying tp = some (.pointer e)) (S : ¬ z < 0) (G : z ≤ 9223372036854775807) (U : z ≠ 0) (N : w.shape? b = some (e, n)) (j : P.cellsOf e = 1) (M : liesAt P P.depth e n 0 e z.toNat = true) (J : (loadBytes ⟨b, 0, none⟩ .empty z.toNat).run P w = .ok s w) :
    (Builtin.unsafeString_ #[tp, ti] ty #[.pointer (some ⟨b, 0, none⟩), .int kn z]).run P w = .ok (.string s) (w.freeze ⟨b, 0, none⟩ z.toNat) := by
  have I : Builtin.unsafeString_ #[tp, ti] ty #[.pointer (some ⟨b, 0, none⟩), .int kn z] =
                    (do
                      let n ← asInt (.int kn z)
                      if n < 0 then runtimePanic (.error "unsafe.String: len out of range")
                      if n > IntKind.i64.max then unsupported (.unsafePointer "String: a length above the largest int")
                      if n = 0 then pure (.string .empty)
                      else if ← variablesAt ⟨b, 0, none⟩ (← elemOf tp) n.toNat then do
                        let s ← loadBytes ⟨b, 0, none⟩ .empty n.toNat
                        freeze ⟨b, 0, none⟩ n.toNat
                        pure (.string s)
                      else unsupported (.unsafePointer "String: not so many bytes at ptr")) := rfl
  rw [I]
  have Z : ¬ z > IntKind.i64.max := by have : IntKind.i64.max = 9223372036854775807 := rfl; omega
  simp [asInt, asIntOf, S, U, elemOf, run_underlying O, variablesAt, N, j, M, J, freeze, Sem.run, Result.andThen]
  try exact G
end Go.V
noncomputable section
namespace Go.V
open Go Go.RowKit
def K7:Int→Int→Bool
 | .ofNat m, .ofNat n=>Nat.ble m n
 | .negSucc _, .ofNat _=>true
 | .ofNat _, .negSucc _=>false
 | .negSucc m, .negSucc n=>Nat.ble n m
theorem Xj (a b : Int) : K7 a b = true ↔ a ≤ b := by
  cases a with
  | ofNat m => cases b with
    | ofNat n => show Nat.ble m n = true ↔ (m : Int) ≤ (n : Int); rw [Nat.ble_eq]; omega
    | negSucc n => show false = true ↔ (m : Int) ≤ Int.negSucc n; constructor
                   · intro h; cases h
                   · intro h; omega
  | negSucc m => cases b with
    | ofNat n => show true = true ↔ Int.negSucc m ≤ (n : Int); constructor
                 · intro _; omega
                 · intro _; rfl
    | negSucc n => show Nat.ble n m = true ↔ Int.negSucc m ≤ Int.negSucc n; rw [Nat.ble_eq]; omega
def Lr:Int→Int→Bool
 | .ofNat m, .ofNat n=>Nat.ble (m+1) n
 | .negSucc _, .ofNat _=>true
 | .ofNat _, .negSucc _=>false
 | .negSucc m, .negSucc n=>Nat.ble (n+1) m
theorem Ys (a b : Int) : Lr a b = true ↔ a < b := by
  cases a with
  | ofNat m => cases b with
    | ofNat n => show Nat.ble (m + 1) n = true ↔ (m : Int) < (n : Int); rw [Nat.ble_eq]; omega
    | negSucc n => show false = true ↔ (m : Int) < Int.negSucc n; constructor
                   · intro h; cases h
                   · intro h; omega
  | negSucc m => cases b with
    | ofNat n => show true = true ↔ Int.negSucc m < (n : Int); constructor
                 · intro _; omega
                 · intro _; rfl
    | negSucc n => show Nat.ble (n + 1) m = true ↔ Int.negSucc m < Int.negSucc n; rw [Nat.ble_eq]; omega
instance (priority:=2000) aez (a b:Int):Decidable (a≤b):=decidable_of_bool (K7 a b) (Xj a b)
instance (priority:=2000) aeA (a b:Int):Decidable (a < b):=decidable_of_bool (Lr a b) (Ys a b)
def aj (k:IntKind) (z:Int):Bool:=decide (k.min≤z)&&decide (z≤k.max)
def aG (a b:ByteArray):Bool:=a.data.toList==b.data.toList
def strLt (a b:ByteArray):Bool:=Op.bytesLess a.data.toList b.data.toList
def ry (a b:ByteArray):ByteArray:= ⟨⟨a.data.toList ++ b.data.toList⟩⟩
def dC (s:ByteArray) (l h:Nat):ByteArray:= ⟨⟨(s.data.toList.drop l).take (h - l)⟩⟩
def aR (s:ByteArray) (i:Nat):Int:=((s.data.toList.getD i 0).toNat:Int)
def db (s:ByteArray):List Int:=s.data.toList.map fun b=>(b.toNat:Int)
def ofBytes (zs:List Int):ByteArray:= ⟨⟨zs.map fun z=>UInt8.ofNat z.toNat⟩⟩
def bV (j:BinOp) (k:IntKind) (x y:Int):Int:=
 k.wrap ((match j with
  | .and=>BitVec.ofInt k.bits x &&& BitVec.ofInt k.bits y
  | .or=>BitVec.ofInt k.bits x ||| BitVec.ofInt k.bits y
  | .xor=>BitVec.ofInt k.bits x ^^^ BitVec.ofInt k.bits y
  | _=>BitVec.ofInt k.bits x &&& ~~~BitVec.ofInt k.bits y).toNat:Int)
def intKind (P:Program) (t:TypeId):Option IntKind:=match P.underlying t with | some (.int k)=>some k | _=>none
def mU (P:Program) (t:TypeId):Option TypeId:=match P.underlying t with | some (.slice e)=>some e | _=>none
section
variable {R : Type}
def aC.get (c:aC) (o:Nat) (k:AV→Option R):Option R:=
 match c with
 | .cells l=>match l[o]? with | some v=>k v | none=>none
 | .ints j zs=>bif decide (o < zs.length) then k (.val (.int j (zs.getD o 0))) else none
 | .vals vs=>bif decide (o < vs.length) then k (.val (vs.getD o undef)) else none
def aC.Cv (c:aC):Nat→Nat→(List AV→Option R)→Option R
 | 0,_,k=>k []
 | n+1,o,k=>c.get o fun v=>c.Cv n (o+1) fun vs=>k (v :: vs)
def eP:AV→Bool
 | .val v=>v.oneCell'
 | .agg _=>false
 | .tup _=>false
 | .any=>false
 | _=>true
def aC.put (c:aC) (o:Nat) (l:List AV) (k:aC→Option R):Option R:=
 bif l.all eP then
  match c with
  | .cells cJ=>
   bif decide (o+l.length≤cJ.length) then
    match l with
    | [v]=>k (.cells (cJ.set o v))
    | _=>k (.cells (cJ.take o ++ l ++ cJ.drop (o+l.length)))
   else none
  | .ints j zs=>
   match l with
   | [.val (.int G z)]=>bif decide (j=G) then bif decide (o < zs.length) then k (.ints j (zs.set o z)) else none else none
   | _=>none
  | .vals vs=>
   match l with
   | [.val v]=>bif decide (o < vs.length) then k (.vals (vs.set o v)) else none
   | _=>none
 else none
end
def aC.sub (c:aC) (o m:Nat):aC:=
 match c with
 | .cells l=> .cells ((l.drop o).take m)
 | .ints k zs=> .ints k ((zs.drop o).take m)
 | .vals vs=> .vals ((vs.drop o).take m)
def BL (k:IntKind):AV→Option Int
 | .val (.int j z)=>bif decide (j=k) then some z else none
 | _=>none
def mm (k:IntKind):List AV→Option (List Int)
 | []=>some []
 | v :: l=>match BL k v with
  | some z=>match mm k l with | some zs=>some (z :: zs) | none=>none
  | none=>none
def aC.tB (k:IntKind):aC→Option (List Int)
 | .cells l=>mm k l
 | .ints j zs=>bif decide (j=k) then some zs else none
 | .vals vs=>mm k (vs.map .val)
def aC.app (I:Option IntKind) (a:aC) (n:Nat) (b:aC):Option aC:=
 match I with
 | some k=>match a.tB k with
  | some j=>match b.tB k with | some G=>some (.ints k (j.take n ++ G)) | none=>none
  | none=>none
 | none=>match a,b with
  | .vals j, .vals G=>some (.vals (j.take n ++ G))
  | .cells [], .vals G=>some (.vals G)
  | .vals j, .cells l=>bif l.all isVal then some (.vals (j.take n ++ l.map rP)) else none
  | a,b=>some (.cells (a.a9.take n ++ b.a9))
def wP:AV→Option (List AV)
 | .val v=>some (v.cells.toList.map .val)
 | .agg cs=>some cs
 | .tup _=>none
 | .any=>none
 | v=>some [v]
def gy:Value→AV:=toAV1
def al (T:List AV):Nat→AV:=List.rec (motive:=fun _=>Nat→AV) (fun _=> .any) (fun a _ j n=>Nat.rec (motive:=fun _=>AV) a (fun m _=>j m) n) T
def CU (T:List AV):Nat→AV→List AV:=List.rec (motive:=fun _=>Nat→AV→List AV) (fun _ _=> []) (fun a l j n v=>Nat.rec (motive:=fun _=>List AV) (v :: l) (fun m _=>a :: j m v) n) T
theorem qE:∀ (T:List AV) (t:Nat),al T t=(T[t]?).getD .any
 | [],t=>rfl
 | a :: l,0=>rfl
 | a :: l,t+1=>by rw [List.getElem?_cons_succ];exact qE l t
theorem CV:∀ (T:List AV) (t:Nat) (v:AV),CU T t v=T.set t v
 | [],t,v=>rfl
 | a :: l,0,v=>rfl
 | a :: l,t+1,v=>by rw [List.set_cons_succ,← CV l t v];rfl
def aA (T:List AV):Operand→AV
 | .tmp t=>al T t
 | .const v=>gy v
 | .global g=> .val (.pointer (some ⟨g,0,none⟩))
 | .func f=> .val (.func (.func f) #[] #[])
def rowOf (H:Hp) (i:Nat):Option (aC×TypeId×rV):=match H[i]? with | some (.row c ty st)=>some (c,ty,st) | _=>none
section
variable {R : Type} (P : Program)
def oO (H:Hp) (t:TypeId) (p:AV) (k:AV→Option R):Option R:=
 match p with
 | .ptr i off=>
  match H[i]? with
  | some (.row c _ st)=>bif st== .dead then none else
   bif dG P t then c.Cv (P.cellsOf t) off fun vs=>k (.agg vs)
   else bif (P.underlying t).isSome then c.get off k else none
  | _=>none
 | .eptr G n f j off=>
  bif dG P t then bif decide (off+P.cellsOf t≤P.cellsOf G) then k (.agg ((List.range (P.cellsOf t)).map fun q=>f j (off+q))) else none
  else bif (P.underlying t).isSome then bif decide (off < P.cellsOf G) then k (f j off) else none else none
 | _=>none
def Fg (lo:Nat) (H:Hp) (t:TypeId) (p v:AV) (k:Hp→Option R):Option R:=
 match p with
 | .ptr i off=>bif decide (i < lo) then none else
  match H[i]?,wP v with
  | some (.row c ty .live),some l=>bif (l.length==P.cellsOf t&&(P.info? t).isSome) then c.put off l fun c'=>k (H.set i (.row c' ty .live)) else none
  | _,_=>none
 | _=>none
def Kx (s f:Nat) (v:AV):Option AV:=
 match P.underlying s with
 | some (.struct j)=>
  match j[f]? with
  | some fd=>
   bif P.cellsOf fd.type==0 then none else
   match v with
   | .ptr i off=>some (.ptr i (off+fd.offset))
   | .eptr t n g G off=>some (.eptr t n g G (off+fd.offset))
   | _=>none
  | none=>none
 | _=>none
def tP (t:TypeId) (cs:List AV) (off:Nat) (k:AV→Option R):Option R:=
 bif dG P t then k (.agg ((cs.drop off).take (P.cellsOf t)))
 else bif (P.underlying t).isSome then match cs[off]? with | some v=>k v | none=>none else none
def Cj (s f:Nat) (v:AV) (k:AV→Option R):Option R:=
 match P.underlying s,v with
 | some (.struct j), .agg cs=>match j[f]? with
  | some fd=>tP P fd.type cs fd.offset k
  | none=>none
 | _,_=>none
def om (k:IntKind) (z:Int) (K:AV→Option R):Option R:=
 bif k.signed then bif aj k z then K (.val (.int k z)) else none else K (.val (.int k (k.wrap z)))
def CF (j:BinOp) (k:IntKind) (x y:Int) (K:AV→Option R):Option R:=
 match j with
 | .add=>om k (x+y) K
 | .sub=>om k (x - y) K
 | .mul=>om k (x*y) K
 | .quo=>bif decide (y=0) then none else om k (x.tdiv y) K
 | .rem=>bif decide (y=0) then none else K (.val (.int k (x.tmod y)))
 | .and=>K (.val (.int k (bV .and k x y)))
 | .or=>K (.val (.int k (bV .or k x y)))
 | .xor=>K (.val (.int k (bV .xor k x y)))
 | .andNot=>K (.val (.int k (bV .andNot k x y)))
 | .eql=>K (.val (.bool (decide (x=y))))
 | .neq=>K (.val (.bool (!decide (x=y))))
 | .lss=>K (.val (.bool (decide (x < y))))
 | .leq=>K (.val (.bool (decide (x≤y))))
 | .gtr=>K (.val (.bool (decide (y < x))))
 | .geq=>K (.val (.bool (decide (y≤x))))
 | _=>none
def yN (j:BinOp) (k:IntKind) (x y:Int) (K:AV→Option R):Option R:=
 bif decide (y < 0) then none else
 match j with
 | .shl=>om k (x*2 ^ (min y.toNat k.bits)) K
 | .shr=>K (.val (.int k (x.fdiv (2 ^ (min y.toNat k.bits)))))
 | _=>none
def Fi (j:BinOp) (x y:ByteArray) (K:AV→Option R):Option R:=
 match j with
 | .add=>bif decide (x.size+y.size≤9223372036854775807) then K (.val (.string (ry x y))) else none
 | .eql=>K (.val (.bool (aG x y)))
 | .neq=>K (.val (.bool (!aG x y)))
 | .lss=>K (.val (.bool (strLt x y)))
 | .leq=>K (.val (.bool (strLt x y ||aG x y)))
 | .gtr=>K (.val (.bool (!(strLt x y ||aG x y))))
 | .geq=>K (.val (.bool (!strLt x y)))
 | _=>none
def qT (t:TypeId) (j:List Value) (off:Nat):Option Value:=bif dG P t then some (.agg ((j.drop off).take (P.cellsOf t)).toArray) else bif (P.underlying t).isSome then j[off]? else none
def oB (E:TypeId→Value→Value→Option Bool) (j G:List Value):List Field→Option Bool
 | []=>some true
 | f :: I => bif f.name == "_" then oB E j G I else
  match qT P f.type j f.offset,qT P f.type G f.offset with
  | some a,some b=>match E f.type a b with
   | some q=>match oB E j G I with
    | some J=>some (q&&J)
    | none=>none
   | none=>none
  | _,_=>none
def jh:Nat→TypeId→Value→Value→Option Bool
 | 0,_,_,_=>none
 | d+1,t,x,y=>
  match P.underlying t,x,y with
  | some .bool, .bool a, .bool b=>some (a==b)
  | some (.int _), .int k a, .int G b=>bif decide (k=G) then some (decide (a=b)) else none
  | some .string, .string a, .string b=>some (aG a b)
  | some (.struct j), .agg I, .agg J=>bif P.stoodInHeld t then none else oB P (jh d) I.toList J.toList j.toList
  | some (.pointer _), .pointer none, .pointer b=>some b.isNone
  | some (.slice _), .slice none _ _, .slice b _ _=>some b.isNone
  | some (.func _ _ _), .nilFunc, .nilFunc=>some true
  | some (.func _ _ _), .nilFunc, .func _ _ _=>some false
  | some (.func _ _ _), .func _ _ _, .nilFunc=>some false
  | _,_,_=>none
def lq:Value→Bool
 | .bool _=>true
 | _=>false
def eL:Value→Bool
 | .string _=>true
 | _=>false
def aM:Value→Bool
 | .bool b=>b
 | _=>false
def ah:Value→ByteArray
 | .string s=>s
 | _=>ByteArray.mk #[]
def nC:Value→Bool
 | .nilIface=>false
 | _=>true
def oA (t:TypeId) (x y:AV):Option Bool:=
 match toVal x,toVal y with
 | some a,some b=>bif nC a&&nC b&& !(P.eqGuardType P.depth t) then jh P 20 t a b else none
 | _,_=>match P.underlying t,x,y with
  | some (.slice _), .sl _ _ _ _ _, .val (.slice none _ _)=>some false
  | some (.slice _), .val (.slice none _ _), .sl _ _ _ _ _=>some false
  | some (.func _ _ _), .clo .., .val .nilFunc=>some false
  | some (.func _ _ _), .val .nilFunc, .clo .. =>some false
  | some (.pointer _), .ptr .., .val (.pointer none)=>some false
  | some (.pointer _), .val (.pointer none), .ptr .. =>some false
  | some (.slice _), .lst _ _ n _, .val (.slice none _ _)=>bif decide (0 < n) then some false else none
  | _,_,_=>none
def tn (E:TypeId→Value→Value→(Bool→Option R)→Option R) (j G:List Value):List Field→(Bool→Option R)→Option R
 | [],K=>K true
 | f :: I, K => bif f.name == "_" then tn E j G I K else
  match qT P f.type j f.offset,qT P f.type G f.offset with
  | some a,some b=>E f.type a b fun q=>tn E j G I fun J=>K (q&&J)
  | _,_=>none
def xC:Nat→TypeId→Value→Value→(Bool→Option R)→Option R
 | 0,_,_,_,_=>none
 | d+1,t,x,y,K=>
  match P.underlying t with
  | some .bool=>bif lq x&&lq y then K (aM x==aM y) else none
  | some .string=>bif eL x&&eL y then K (aG (ah x) (ah y)) else none
  | some (.struct j)=>match x,y with
   | .agg G, .agg I=>bif P.stoodInHeld t then none else tn P (xC d) G.toList I.toList j.toList K
   | _,_=>none
  | _=>match jh P (d+1) t x y with | some q=>K q | none=>none
def B9 (t:TypeId) (x y:AV) (K:Bool→Option R):Option R:=
 match toVal x,toVal y with
 | some a,some b=>bif nC a&&nC b&& !(P.eqGuardType P.depth t) then xC P 20 t a b K else none
 | _,_=>match P.underlying t,x,y with
  | some (.slice _), .lst _ _ n _, .val (.slice none _ _)=>bif decide (0 < n) then K false else none
  | _,_,_=>match oA P t x y with | some q=>K q | none=>none
def Db (T:List AV) (o:Oper):Option AV:=
 bif o.op.operands.toList.all (fun x=>(toVal (aA T x)).isSome) then
  match o.op with
  | .select .. =>none
  | _=>match mN P (execOp (fun x=>((toVal (aA T x)).getD undef)) o) with
   | some (.value v)=>some (toAV v)
   | _=>none
 else none
def af (sz m:Nat) (f:Nat→Nat→AV):List Value:=(List.range (m*sz)).map fun i=>rP (f (i / sz) (i % sz))
def au (sz m:Nat) (f:Nat→Nat→AV):Bool:=(List.range (m*sz)).all fun i=>isVal (f (i / sz) (i % sz))
def vf (k:Option IntKind) (sz n:Nat) (f:Nat→Nat→AV):Option aC:=
 match k with
 | some k=>bif sz==1 then match mm k ((List.range n).map fun j=>f j 0) with | some zs=>some (.ints k zs) | none=>none else none
 | none=>bif au sz n f then some (.vals (af sz n f)) else none
def yK (k:Option IntKind) (sz n:Nat) (f:Nat→Nat→AV) (K:aC→Option R):Option R:=
 match k with
 | some k=>bif sz==1 then match mm k ((List.range n).map fun j=>f j 0) with | some zs=>K (.ints k zs) | none=>none else none
 | none=>bif au sz n f then K (.vals (af sz n f)) else none
def rm (H:Hp) (t:TypeId) (v:AV) (k:aC→Nat→Option R):Option R:=
 match v with
 | .val (.slice none 0 0)=>k (.cells []) 0
 | .val (.string s)=>bif P.cellsOf t==1 then k (.ints .u8 (db s)) s.size else none
 | .sl _ j i off len=>bif t==j then
   match H[i]? with
   | some (.row c _ st)=>bif st== .dead then none else bif decide (off+len*P.cellsOf t≤c.len) then k (c.sub off (len*P.cellsOf t)) len else none
   | _=>none
  else none
 | .lst _ j n f=>bif t==j then yK (intKind P t) (P.cellsOf t) n f fun c=>k c n else none
 | _=>none
def La (t:TypeId) (v:AV):Option AV:=
 match v with
 | .sl _ j _ _ n=>bif mU P t==some j then some (.val (.int .i64 n)) else none
 | .lst _ j n _=>bif mU P t==some j then some (.val (.int .i64 n)) else none
 | _=>none
def wG:Option AV→Option (Option Int)
 | none=>some none
 | some (.val (.int _ z))=>some (some z)
 | _=>none
def mj (n:Nat) (lo j:Option AV) (k:Nat→Nat→Option R):Option R:=
 match wG lo,wG j with
 | some none,some none=>k 0 n
 | some none,some (some h)=>bif decide (0≤h)&&decide (h≤n) then k 0 h.toNat else none
 | some (some l),some none=>bif decide (0≤l)&&decide (l≤n) then k l.toNat n else none
 | some (some l),some (some h)=>bif decide (0≤l)&&decide (l≤h)&&decide (h≤n) then k l.toNat h.toNat else none
 | _,_=>none
end
end Go.V
end
noncomputable section
namespace Go.V
open Go Go.RowKit
inductive Ex where
 | normal
 | exit (id:Nat)
 | ret
def Ex.to:Ex→Exit
 | .normal=> .normal
 | .exit id=> .exit id
 | .ret=> .ret
structure Env where
 C:FuncId→List AV→Option (Bool×AV)
 K:FuncId→Bool
 L:FuncId→Nat→List Bool→Option (List Nat×(List AV→Hp→Option (Bool×Ex×List AV×Hp)))
section
variable {R : Type} (P : Program)
def fH (g:FuncId):Bool:=
 match P.funcs[g]? with
 | some j => j.body.isSome && !(j.name == "runtime.NumGoroutine")
 | none=>false
def q8:AV→Bool
 | .val _=>true
 | .agg cs=>cs.all isVal
 | _=>false
def yl:AV→Bool
 | .tup vs=>vs.all q8
 | v=>q8 v
def ig (c:aC) (I:List AV) (off sz:Nat):Nat→Nat→AV:=
 match c with
 | .cells _=>fun j q=>I.getD (off+j*sz+q) .any
 | .ints G zs=>bif sz==1 then fun j _=> .val (.int G ((zs.drop off).getD j 0)) else fun j q=> .val (.int G (zs.getD (off+j*sz+q) 0))
 | .vals vs=>fun j q=> .val (vs.getD (off+j*sz+q) undef)
def mo (f:AV→(AV→Option R)→Option R):List AV→(List AV→Option R)→Option R
 | [],k=>k []
 | v :: l,k=>f v fun G=>mo f l fun j=>k (G :: j)
def kH (H:Hp):Nat→AV→(AV→Option R)→Option R
 | 0,_,_=>none
 | d+1,v,k=>
  match v with
  | .val x=>k (.val x)
  | .sl fl t i off len=>match H[i]? with
   | some (.row c _ st)=>bif st== .dead then none else bif decide (off+len*P.cellsOf t≤c.len) then
     match c with
     | .cells l=>mo (kH H d) l fun M=>k (.lst fl t len (ig c M off (P.cellsOf t)))
     | c=>k (.lst fl t len (ig c [] off (P.cellsOf t)))
    else none
   | _=>none
  | .lst .. =>k v
  | .eptr .. =>k v
  | .agg cs=>mo (kH H d) cs fun j=>k (.agg j)
  | .tup cs=>mo (kH H d) cs fun j=>k (.tup j)
  | .clo J a b=>mo (kH H d) a fun G=>mo (kH H d) b fun I=>k (.clo J G I)
  | _=>none
def aC.yS:aC→List AV
 | .cells l=>l
 | _=> []
def cr (H:Hp):Nat→List AV→List Nat
 | 0,_=> []
 | d+1,l=>l.flatMap fun v=>match v with
  | .sl _ _ i _ _=>match H[i]? with
   | some (.row c _ .live)=>i :: cr H d c.yS
   | some (.row c _ .froz)=>cr H d c.yS
   | _=> []
  | .agg cs=>cr H d cs
  | .tup cs=>cr H d cs
  | .clo _ a b=>cr H d a ++ cr H d b
  | _=> []
def gB (H:Hp) (i:Nat):Hp:=match H[i]? with | some (.row c ty .live)=>H.set i (.row c ty .froz) | _=>H
def gC (ids:List Nat) (H:Hp):Hp:=ids.foldl gB H
def owns:AV→Bool
 | .val _=>false
 | .lst .. =>false
 | .eptr .. =>false
 | .agg cs=> !(cs.all fun c=>match c with | .val _=>true | .lst .. =>true | _=>false)
 | _=>true
def qx (j:Nat→Option (Nat×Nat)) (cells:List AV):List (Nat×AV)→Option (List AV)
 | []=>some cells
 | (i,v) :: G=>
  match j i,wP v with
  | some (off,sz),some l=>bif (l.length==sz&&decide (off+l.length≤cells.length)&&l.all eP) then qx j (cells.take off ++ l ++ cells.drop (off+l.length)) G else none
  | _,_=>none
def zeroCells (t:TypeId):Option (List AV):=match mN P (zeroValue t) with | some z=>some (z.cells.toList.map .val) | none=>none
def yk (j:Option IntKind) (l:List AV):aC:=
 match j with
 | some k=>match mm k l with | some zs=> .ints k zs | none=> .cells l
 | none=> .cells l
def cA (n e:Nat):Bool:=decide (n*P.bytesOf e≤140737488355328)&&decide (n≤9223372036854775807)
def aC.oi:aC→Bool
 | .cells l=>l.all eP
 | .ints _ _=>true
 | .vals vs=>vs.all (·.oneCell')
def pR (e:TypeId):Bool:=match zeroCells P e with | some z=>z.length==P.cellsOf e | none=>false
def mi (tx:TypeId):Bool:=match P.underlying tx with | some (.slice _)=>true | some .string=>true | _=>false
def Jk (lo:Nat) (H:Hp) (e:TypeId) (s:AV) (fl:Bool) (i off len:Nat) (cx:aC) (n:Nat) (k:AV→Hp→Option R):Option R:=
 match H[i]? with
 | some (.row c ty st)=>
  bif (st== .live&&ty==e&&decide (off=0)&&decide (len*P.cellsOf e≤c.len)&&cA P (len+n) e&&cx.oi) then
   match c.app (intKind P e) (len*P.cellsOf e) cx with
   | some c'=>
    bif fl then bif decide (n=0) then k s H else k (.sl false e H.length 0 (len+n)) (H ++ [.row c' e .live])
    else bif decide (i < lo) then none else k (.sl false e H.length 0 (len+n)) (H.set i (.row c ty .dead) ++ [.row c' e .live])
   | none=>none
  else none
 | _=>none
def Jj (H:Hp) (e:TypeId) (s:AV) (cx:aC) (n:Nat) (k:AV→Hp→Option R):Option R:=
 bif decide (n=0) then k s H else bif cA P n e then
  match (aC.cells []).app (intKind P e) 0 cx with
  | some c=>k (.sl false e H.length 0 n) (H ++ [.row c e .live])
  | none=>none
 else none
def Ji (H:Hp) (e:TypeId) (s:AV) (m:Nat) (f:Nat→Nat→AV) (cx:aC) (n:Nat) (k:AV→Hp→Option R):Option R:=
 bif decide (n=0) then k s H else bif cA P (m+n) e then
  yK (intKind P e) (P.cellsOf e) m f fun j=>match j.app (intKind P e) (m*P.cellsOf e) cx with
   | some c'=>k (.sl false e H.length 0 (m+n)) (H ++ [.row c' e .live])
   | none=>none
 else none
def Jn (lo:Nat) (H:Hp) (e:TypeId) (s:AV) (cx:aC) (n:Nat) (k:AV→Hp→Option R):Option R:=
 match s with
 | .val (.slice none 0 0)=>Jj P H e s cx n k
 | .sl fl j i off len=>bif e==j then Jk P lo H e s fl i off len cx n k else none
 | .lst fl j m f=>bif e==j&&fl then Ji P H e s m f cx n k else none
 | _=>none
def Jm (lo:Nat) (H:Hp) (ts tx:TypeId) (s x:AV) (k:AV→Hp→Option R):Option R:=
 match mU P ts with
 | some e=>
  bif mi P tx&&pR P e then rm P H e x fun cx n=>Jn P lo H e s cx n k
  else none
 | none=>none
def xP (tx:TypeId):Bool:=match P.underlying tx with | some (.int _)=>true | _=>false
def Cw (H:Hp) (ts:TypeId) (s x:AV) (k:AV→Hp→Option R):Option R:=
 match mU P ts,s,x with
 | some e, .val (.slice none 0 0), .val (.int _ n)=>bif decide (0 < n)&&cA P n.toNat e&&pR P e&&decide (0 < P.cellsOf e) then k (.sl false e H.length 0 n.toNat) (H ++ [.row (.cells []) e .live]) else none
 | _,_,_=>none
def CX (H:Hp) (t:TypeId) (l c:AV) (k:AV→Hp→Option R):Option R:=
 match mU P t,l,c with
 | some e, .val (.int _ l), .val (.int _ c)=>
  bif decide (0≤l)&&decide (l≤c)&&decide ((P.bytesOf e:Int)*c≤281474976710656)&&decide (c≤9223372036854775807) then
   match (P.info? e).isSome,zeroCells P e with
   | true,some z=>
    match (match intKind P e,z with
     | some j, [.val (.int G 0)]=>bif decide (j=G)&&P.cellsOf e==1 then some (aC.ints j (List.replicate l.toNat 0)) else none
     | _,z=>bif z.length==P.cellsOf e then some (.cells (List.replicate l.toNat z).flatten) else none) with
    | some c=>k (.sl false e H.length 0 l.toNat) (H ++ [.row c e .live])
    | none=>none
   | _,_=>none
  else none
 | _,_,_=>none
def EH (H:Hp) (t:TypeId) (x:AV) (lo j I:Option AV) (k:AV→Option R):Option R:=
 match P.underlying t,x with
 | some .string, .val (.string s)=>match I with
  | none=>mj s.size lo j fun l h=>k (.val (.string (dC s l h)))
  | _=>none
 | some (.slice e), .sl fl G i off len=>bif e==G&&(P.info? e).isSome then
   match I with
   | none=>mj len lo j fun l h=>k (.sl (match j with | none=>fl | _=>false) G i (off+l*P.cellsOf G) (h - l))
   | some (.val (.int _ m))=>match j with
    | some (.val (.int _ z))=>mj len lo j fun l h=>bif decide (z≤m)&&decide (m≤len) then k (.sl (decide (m=z)) G i (off+l*P.cellsOf G) (h - l)) else none
    | _=>none
   | _=>none
  else none
 | some (.slice e), .lst fl G n f=>bif e==G&&(P.info? e).isSome then
   match I with
   | none=>mj n lo j fun l h=>k (.lst (match j with | none=>fl | _=>false) G (h - l) (fun J q=>f (J+l) q))
   | some (.val (.int _ m))=>match j with
    | some (.val (.int _ z))=>mj n lo j fun l h=>bif decide (z≤m)&&decide (m≤n) then k (.lst (decide (m=z)) G (h - l) (fun J q=>f (J+l) q)) else none
    | _=>none
   | _=>none
  else none
 | some (.slice e), .val (.slice none 0 0)=>match I with
  | none=>bif (P.info? e).isSome then mj 0 lo j fun l h=>k x else none
  | _=>none
 | some (.array n e), .ptr i off=>match I,H[i]? with
  | none,some (.row c ty st)=>bif (!(st== .dead)&&(P.info? e).isSome&&decide (off+n*P.cellsOf e≤c.len)) then mj n lo j fun l h=>k (.sl (match j with | none=>true | _=>false) e i (off+l*P.cellsOf e) (h - l)) else none
  | _,_=>none
 | _,_=>none
def CE (t:TypeId) (x G:AV) (k:AV→Option R):Option R:=
 match P.underlying t,x,G with
 | some (.slice e), .lst _ j n f, .val (.int _ z)=>bif e==j&&(P.info? e).isSome then bif decide (0≤z)&&decide (z < n) then k (.eptr j n f z.toNat 0) else none else none
 | some (.slice e), .sl _ j i off n, .val (.int _ z)=>bif e==j&&(P.info? e).isSome then bif decide (0≤z)&&decide (z < n) then k (.ptr i (off+z.toNat*P.cellsOf e)) else none else none
 | some (.array n e), .ptr i off, .val (.int _ z)=>bif (P.info? e).isSome then bif decide (0≤z)&&decide (z < n) then k (.ptr i (off+z.toNat*P.cellsOf e)) else none else none
 | some (.array n e), .eptr j m f I off, .val (.int _ z)=>bif (P.info? e).isSome then bif decide (0≤z)&&decide (z < n) then k (.eptr j m f I (off+z.toNat*P.cellsOf e)) else none else none
 | _,_,_=>none
def CD (t:TypeId) (x G:AV) (k:AV→Option R):Option R:=
 match P.underlying t,x,G with
 | some .string, .val (.string s), .val (.int _ z)=>bif decide (0≤z)&&decide (z < s.size) then k (.val (.int .u8 (aR s z.toNat))) else none
 | some (.array n e), .agg cs, .val (.int _ z)=>
  bif decide (0≤z)&&decide (z < n) then
   match intKind P e with
   | some j=>match mm j cs with
    | some zs=>bif P.cellsOf e==1&&zs.length==n then k (.val (.int j (zs.getD z.toNat 0))) else none
    | none=>none
   | none=>tP P e cs (z.toNat*P.cellsOf e) k
  else none
 | _,_,_=>none
def LF:AV→Bool
 | .val (.string _)=>false
 | _=>true
def widens (a b:IntKind):Bool:=decide (b.min≤a.min)&&decide (a.max≤b.max)
def BH (H:Hp) (J G:TypeId) (x:AV) (k:AV→Hp→Option R):Option R:=
 match P.underlying J,P.underlying G with
 | some (.int I),some (.int j)=>match x with
  | .val (.int _ n)=>bif widens I j then bif aj j n then k (.val (.int j n)) H else none else k (.val (.int j (j.wrap n))) H
  | _=>none
 | some .string,some .string=>match x with
  | .val (.string s)=>k x H
  | _=>none
 | some (.slice e),some .string=>bif intKind P e==some .u8&&P.cellsOf e==1&&LF x then rm P H e x fun c n=>match c.tB .u8 with
   | some zs=>k (.val (.string (ofBytes zs))) H
   | none=>none
  else none
 | some .string,some (.slice e)=>match x with
  | .val (.string s)=>bif intKind P e==some .u8&&P.cellsOf e==1 then k (.sl false e H.length 0 s.size) (H ++ [.row (.ints .u8 (db s)) e .live]) else none
  | _=>none
 | _,_=>none
mutual
def KV:AV→List Nat
 | .ptr i _=> [i]
 | .sl _ _ i _ _=> [i]
 | .yld i=> [i]
 | .agg cs=>e8 cs
 | .tup cs=>e8 cs
 | .clo _ a b=>e8 a ++ e8 b
 | _=> []
def e8:List AV→List Nat
 | []=> []
 | v :: l=>KV v ++ e8 l
end
mutual
def rh (ρ:Nat→Nat):AV→AV
 | .ptr i off=> .ptr (ρ i) off
 | .sl fl t i off n=> .sl fl t (ρ i) off n
 | .yld i=> .yld (ρ i)
 | .agg cs=> .agg (eQ ρ cs)
 | .tup cs=> .tup (eQ ρ cs)
 | .clo j a b=> .clo j (eQ ρ a) (eQ ρ b)
 | .any=> .any
 | .val v=> .val v
 | .lst fl t n f=> .lst fl t n f
 | .eptr t n f G off=> .eptr t n f G off
def eQ (ρ:Nat→Nat):List AV→List AV
 | []=> []
 | v :: l=>rh ρ v :: eQ ρ l
end
def aC.ids:aC→List Nat
 | .cells l=>e8 l
 | _=> []
def bG.ids:bG→List Nat
 | .row c _ .dead=> []
 | .row c _ _=>c.ids
 | .loop r=>e8 r.T
def aC.D9 (ρ:Nat→Nat):aC→aC
 | .cells l=> .cells (eQ ρ l)
 | c=>c
def yH (ρ:Nat→Nat):bG→bG
 | .row _ ty .dead=> .row (.cells []) ty .dead
 | .row c ty st=> .row (c.D9 ρ) ty st
 | .loop r=> .loop { r with T:=eQ ρ r.T }
def reach (H:Hp):Nat→List Nat→List Nat→List Nat
 | 0,_,j=>j
 | _, [],j=>j
 | d+1,i :: l,j=>bif j.contains i then reach H d l j else reach H d (l ++ (match H[i]? with | some b=>b.ids | none=> [])) (j ++ [i])
def idx:List Nat→Nat→Nat
 | [],_=>0
 | j :: l,i=>bif j==i then 0 else idx l i+1
def su (r:List Nat) (l:List AV) (H:Hp):Bool:=(e8 l).all (fun i=>r.contains i)&&r.all fun i=>match H[i]? with | some b=>b.ids.all (fun j=>r.contains j) | none=>false
def funcOf:AV→Option (FuncId×List AV×List AV)
 | .clo (.func j) a b=>some (j,a,b)
 | .val (.func (.func j) a b)=>some (j,a.toList.map gy,b.toList.map gy)
 | _=>none
inductive Tch where
 | all
 | some (rd:Bool) (l:List (Nat×Bool))
def tid (w:Bool):AV→List (Nat×Bool)
 | .ptr i _=> [(i,w)]
 | .sl _ _ i _ _=> [(i,w)]
 | _=> []
def GM (H:Hp) (l:List AV) (r:List Nat):Tch:=bif su r l H then .some false (r.map fun i=>(i,false)) else .some true []
def zA (H:Hp) (q:Option (FuncId×List AV×List AV)) (args:List AV):Tch:=
 match q with
 | some q=>GM H (q.2.1 ++ args ++ q.2.2) (reach H 60 (e8 (q.2.1 ++ args ++ q.2.2)) [])
 | none=> .some true []
def fz (E:Env) (T:List AV) (H:Hp) (c:Call):Tch:=
 match c.callee with
 | .builtin .append=>match c.args.toList with
  | [s,x]=> .some false (tid true (aA T s) ++ tid false (aA T x))
  | _=> .all
 | .builtin .unsafeString=>match c.args.toList with
  | p :: _=> .some false (tid true (aA T p))
  | _=> .all
 | .builtin _=> .some false []
 | .value f=>zA H (funcOf (aA T f)) (c.args.toList.map (aA T))
 | _=> .all
def cF (E:Env) (T:List AV) (H:Hp) (o:Oper):Tch:=
 match o.op with
 | .load _ x=> .some false (tid false (aA T x))
 | .store _ x _=> .some false (tid true (aA T x))
 | .convert _ _ x=> .some false (tid false (aA T x))
 | .slice _ x _ _ _=> .some false (tid false (aA T x))
 | .call c=>fz E T H c
 | _=> .some false []
structure Cx (R:Type) where
 P:Program
 E:Env
 cf:Nat→FuncId→List AV→Hp→(AV→Hp→Option R)→Option R
 yf:Nat→Nat→List AV→Hp→(AV→Hp→Option R)→Option R
 u:Nat
 fb:Nat
 lo:Nat
 g:FuncId
 rd:Bool
abbrev Kn (R:Type):=AV→Hp→Option R
def JE (x:Cx R) (g:FuncId) (args:List AV) (H:Hp) (k:Kn R):Option R:=
 match x.E.C g args with
 | some r=>bif r.1 then k r.2 H else none
 | none=>x.cf x.lo g args H k
def JD (x:Cx R) (g:FuncId) (args j:List AV) (H:Hp) (k:Kn R):Option R:=
 match x.E.C g j with
 | some r=>bif r.1 then bif yl r.2 then k r.2 H else bif (cr H 8 args).all (fun i=>decide (x.lo≤i)) then k r.2 (gC (cr H 8 args) H) else none else none
 | none=>x.cf x.lo g args H k
def sn (x:Cx R) (g:FuncId) (args:List AV) (H:Hp) (k:Kn R):Option R:=
 bif fH x.P g then
  bif args.any owns then
   bif x.E.K g then mo (kH x.P H 8) args fun j=>JD x g args j H k else x.cf x.lo g args H k
  else JE x g args H k
 else none
def EZ (T:List AV) (c a b:Operand) (H:Hp) (k:Kn R):Option R:=
 match aA T c with
 | .val (.bool t)=>bif t then k (aA T a) H else k (aA T b) H
 | _=>none
def GV (P:Program) (j:TypeId) (z:List AV):aC:=
 match P.underlying j with
 | some (.array _ e)=>yk (intKind P e) z
 | _=> .cells z
def EI (P:Program) (j:TypeId) (H:Hp) (k:Kn R):Option R:=
 match zeroCells P j with
 | some z=>k (.ptr H.length 0) (H ++ [.row (GV P j z) j .live])
 | none=>none
def EM (j:TypeId) (v:AV) (H:Hp) (k:Kn R):Option R:=
 match wP v with
 | some l=>bif l.all eP then k (.ptr H.length 0) (H ++ [.row (.cells l) j .live]) else none
 | none=>none
def qu (T:List AV) (j:Array (Nat×Operand)):List (Nat×AV):=j.toList.map fun p=>(p.1,aA T p.2)
def fieldPlace (P:Program) (j:Array Field) (i:Nat):Option (Nat×Nat):=(j[i]?).map fun f=>(f.offset,P.cellsOf f.type)
def Kr (P:Program) (e:TypeId) (i:Nat):Option (Nat×Nat):=some (i*P.cellsOf e,P.cellsOf e)
def Jz (P:Program) (t:TypeId) (G:List (Nat×AV)):Option (List AV):=
 match zeroCells P t,P.underlying t with
 | some z,some (.struct j)=>bif j.toList.all (fun f=>(P.info? f.type).isSome) then qx (fieldPlace P j) z G else none
 | some z,some (.array _ e)=>bif (P.info? e).isSome then qx (Kr P e) z G else none
 | _,_=>none
def EN (P:Program) (t:TypeId) (j:List (Nat×AV)) (H:Hp) (k:Kn R):Option R:=
 match Jz P t j with
 | some l=>k (.agg l) H
 | none=>none
def JA (P:Program) (e:TypeId) (n:Nat) (j:List (Nat×AV)):Option (List AV):=
 match zeroCells P e with
 | some z=>bif (P.info? e).isSome&&decide (n*P.cellsOf e≤16777216)&&z.length==P.cellsOf e then qx (Kr P e) (List.replicate n z).flatten j else none
 | none=>none
def EO (P:Program) (t:TypeId) (n:Nat) (j:List (Nat×AV)) (H:Hp) (k:Kn R):Option R:=
 match mU P t with
 | some e=>match JA P e n j with
  | some l=>k (.sl true e H.length 0 n) (H ++ [.row (yk (intKind P e) l) e .live])
  | none=>none
 | none=>none
def EV (P:Program) (s f:Nat) (v:AV) (H:Hp) (k:Kn R):Option R:=
 match Kx P s f v with
 | some v=>k v H
 | none=>none
def EX (v:AV) (H:Hp) (k:Kn R):Option R:=
 match v with
 | .ptr i off=>k (.ptr i off) H
 | .eptr t n f j off=>k (.eptr t n f j off) H
 | .clo (.func g) a b=>k (.clo (.func g) a b) H
 | .yld i=>k (.yld i) H
 | .val (.func (.func g) a b)=>k (.val (.func (.func g) a b)) H
 | _=>none
def xD (P:Program) (j:Bool) (t:TypeId) (a b:AV) (H:Hp) (k:Kn R):Option R:=
 B9 P t a b fun q=>k (.val (.bool (bif j then !q else q))) H
def wE (P:Program) (j:BinOp) (t:TypeId) (a b:AV) (H:Hp) (k:Kn R):Option R:=
 match j with
 | .eql=>xD P false t a b H k
 | .neq=>xD P true t a b H k
 | _=>none
def Jt (G:BinOp) (j:IntKind) (a:Int) (I:IntKind) (b:Int) (H:Hp) (k:Kn R):Option R:=
 match G with
 | .shl=>yN .shl j a b fun v=>k v H
 | .shr=>yN .shr j a b fun v=>k v H
 | G=>bif decide (j=I) then CF G j a b fun v=>k v H else none
def EK (P:Program) (j:BinOp) (t:TypeId) (a b:AV) (H:Hp) (k:Kn R):Option R:=
 match a with
 | .val v=>match v with
  | .int G x=>match b with
   | .val (.int I y)=>Jt j G x I y H k
   | _=>none
  | .string x=>match b with
   | .val (.string y)=>Fi j x y fun v=>k v H
   | _=>none
  | v=>wE P j t (.val v) b H k
 | a=>wE P j t a b H k
def EU (v:AV) (j:Nat) (H:Hp) (k:Kn R):Option R:=
 match v with
 | .tup vs=>match vs[j]? with
  | some v=>k v H
  | none=>none
 | _=>none
def mV (P:Program) (T:List AV) (o:Oper) (H:Hp) (k:Kn R):Option R:=
 match Db P T o with
 | some v=>k v H
 | none=>none
def EW (P:Program) (T:List AV) (o:Oper) (args:List Operand) (ts:List TypeId) (H:Hp) (k:Kn R):Option R:=
 match args,ts with
 | [x], [t]=>match La P t (aA T x) with
  | some v=>k v H
  | none=>mV P T o H k
 | _,_=>none
def EJ (P:Program) (lo:Nat) (T:List AV) (args:List Operand) (ts:List TypeId) (H:Hp) (k:Kn R):Option R:=
 match args,ts with
 | [s,x], [ts,tx]=>bif xP P tx then Cw P H ts (aA T s) (aA T x) k else Jm P lo H ts tx (aA T s) (aA T x) k
 | _,_=>none
def ET (P:Program) (T:List AV) (o:Oper) (args:List Operand) (H:Hp) (k:Kn R):Option R:=
 match args with
 | [x]=>match aA T x with
  | .sl _ _ i off len=>bif len==0 then none else k (.ptr i off) H
  | .val _=>mV P T o H k
  | _=>none
 | _=>none
def OO (P:Program) (lo:Nat) (tp:TypeId) (i off:Nat) (z:Int) (H:Hp) (k:Kn R):Option R:=
 match P.underlying tp,H[i]? with
 | some (.pointer e),some (.row (.ints .u8 zs) ty .live)=>
  bif e==ty&&P.cellsOf e==1&&off==0&&decide (0 < z)&&decide (z≤9223372036854775807)&&decide (z.toNat≤zs.length)&&zs.all (aj .u8)&&decide (lo≤i) then
   k (.val (.string (ofBytes (zs.take z.toNat)))) (H.set i (.row (.ints .u8 zs) ty .froz))
  else none
 | _,_=>none
def E0 (P:Program) (lo:Nat) (T:List AV) (o:Oper) (args:List Operand) (ts:List TypeId) (H:Hp) (k:Kn R):Option R:=
 match args,ts with
 | [p,n], [tp,_]=>match aA T p with
  | .ptr i off=>match aA T n with
   | .val (.int _ z)=>OO P lo tp i off z H k
   | _=>none
  | .val _=>mV P T o H k
  | _=>none
 | _,_=>none
def N4 (P:Program) (lo:Nat) (T:List AV) (o:Oper) (b:Builtin) (c:Call) (H:Hp) (k:Kn R):Option R:=
 match b with
 | .len=>EW P T o c.args.toList c.argTypes.toList H k
 | .append=>EJ P lo T c.args.toList c.argTypes.toList H k
 | .unsafeSliceData=>ET P T o c.args.toList H k
 | .unsafeString=>E0 P lo T o c.args.toList c.argTypes.toList H k
 | .min=>mV P T o H k
 | .max=>mV P T o H k
 | .cap=>mV P T o H k
 | _=>none
def E1 (x:Cx R) (f:AV) (args:List AV) (H:Hp) (k:Kn R):Option R:=
 match f with
 | .val v=>match v with
  | .func j a b=>match j with
   | .func g=>sn x g (a.toList.map gy ++ args ++ b.toList.map gy) H k
   | _=>none
  | _=>none
 | .clo j a b=>match j with
  | .func g=>sn x g (a ++ args ++ b) H k
  | _=>none
 | .yld i=>x.yf x.lo i args H k
 | _=>none
def Ce (P:Program) (g:FuncId):Bool:=
 match P.funcs[g]? with
 | some j => j.body.isNone && j.name == "internal/abi.NoEscape" && (j.origin == "" || j.origin == "internal/abi.NoEscape")
 | none=>false
def Cd (P:Program) (f:AV) (args:List AV):Option AV:=
 match f,args with
 | .val (.func (.func g) a b), [v]=>bif a.size==0&&b.size==0&&Ce P g then some v else none
 | _,_=>none
def N5 (x:Cx R) (f:AV) (args:List AV) (H:Hp) (k:Kn R):Option R:=
 match Cd x.P f args with
 | some v=>k v H
 | none=>E1 x f args H k
def EP (x:Cx R) (T:List AV) (o:Oper) (c:Call) (H:Hp) (k:Kn R):Option R:=
 match c.callee with
 | .value f=>N5 x (aA T f) (c.args.toList.map (aA T)) H k
 | .builtin b=>N4 x.P x.lo T o b c H k
 | _=>none
def JZ (P:Program) (s d:TypeId) (i off:Nat) (H:Hp) (k:Kn R):Option R:=
 match P.underlying s,P.underlying d with
 | some (.pointer t),some .unsafePointer=>match P.info? t,H[i]? with
  | some j,some (.row c ty st)=>bif !(st== .dead)&& !(j.size==0)&&decide (off < c.len) then k (.ptr i off) H else none
  | _,_=>none
 | some .unsafePointer,some (.pointer u)=>match P.info? u,H[i]? with
  | some j,some (.row c ty st)=>bif !(st== .dead)&&ty==u&&off==0&&decide (0 < P.cellsOf u)&&decide (P.cellsOf u≤c.len) then k (.ptr i off) H else none
  | _,_=>none
 | _,_=>none
def ER (P:Program) (H:Hp) (s d:TypeId) (v:AV) (k:Kn R):Option R:=
 match v with
 | .ptr i off=>JZ P s d i off H k
 | v=>BH P H s d v k
def MU (P:Program) (J:BinOp) (t:TypeId) (i o G I:Nat) (H:Hp) (k:Kn R):Option R:=
 match P.underlying t,J with
 | some (.pointer j), .eql=>bif i==G&&o==I&&(P.info? j).isSome then k (.val (.bool true)) H else none
 | some (.pointer j), .neq=>bif i==G&&o==I&&(P.info? j).isSome then k (.val (.bool false)) H else none
 | _,_=>none
def EL (P:Program) (j:BinOp) (t:TypeId) (a b:AV) (H:Hp) (k:Kn R):Option R:=
 match a,b with
 | .ptr i o, .ptr G I=>MU P j t i o G I H k
 | a,b=>EK P j t a b H k
def EY (x:Cx R) (T:List AV) (o:Oper) (H:Hp) (k:Kn R):Option R:=
 match o.op with
 | .move a=>k (aA T a) H
 | .assign a=>k (aA T a) H
 | .pick c a b=>EZ T c a b H k
 | .alloc j=>EI x.P j H k
 | .box j a=>EM j (aA T a) H k
 | .build t G=>EN x.P t (qu T G) H k
 | .buildSlice t n G=>EO x.P t n (qu T G) H k
 | .load t a=>oO x.P H t (aA T a) fun v=>k v H
 | .store t a b=>Fg x.P x.lo H t (aA T a) (aA T b) fun I=>k (.val undef) I
 | .fieldAddr s a f=>EV x.P s f (aA T a) H k
 | .field s a f=>Cj x.P s f (aA T a) fun v=>k v H
 | .indexAddr t a i=>CE x.P t (aA T a) (aA T i) fun v=>k v H
 | .index t a i=>CD x.P t (aA T a) (aA T i) fun v=>k v H
 | .slice t a lo M N=>EH x.P H t (aA T a) (lo.map (aA T)) (M.map (aA T)) (N.map (aA T)) fun v=>k v H
 | .convert s d a=>ER x.P H s d (aA T a) k
 | .makeSlice t l c=>CX x.P H t (aA T l) (aA T c) k
 | .makeFunc J a b=>k (.clo J (a.toList.map (aA T)) (b.toList.map (aA T))) H
 | .nilCheck a=>EX (aA T a) H k
 | .binOp O t a b _=>EL x.P O t (aA T a) (aA T b) H k
 | .extract a i=>EU (aA T a) i H k
 | .call c=>EP x T o c H k
 | .unOp .. =>mV x.P T o H k
 | _=>none
def jY (j:Option Tmp) (v:AV) (T:List AV):List AV:=match j with | some d=>CU T d v | none=>T
def nA (T:List AV) (d:Nat) (b:Bool):List AV:=CU T d (.val (.bool b))
abbrev Tl:=List (Tch×Nat×Nat)
abbrev Lk (R:Type):=List AV→Hp→Tl→Option R
def jG (o:Op):Bool:=match o with | .call { callee:= .value _, .. } =>true | _=>false
def iq (x:Cx R) (j:Bool) (o:Oper) (H:Hp):Cx R:=bif j&&jG o.op then { x with lo:=H.length } else x
def tC (x:Cx R) (G:Bool) (o:Oper) (T:List AV) (H:Hp) (J:Tl) (I:Lk R):Option R:=
 EY (iq x G o H) T o H fun v j=>I (jY o.dst v T) j ((bif G then cF x.E T H o else .all,H.length,j.length) :: J)
def xR (o:Oper) (T:List AV) (H:Hp) (G:Tl) (j:Lk R):Option R:=j (jY o.dst (.val undef) T) H ((.some false [],H.length,H.length) :: G)
def KZ (x:Cx R) (I:Bool) (o:Oper) (d:Nat) (J:Bool) (T:List AV) (H:Hp) (G:Tl) (j:Lk R):Option R:=
 match al T d with
 | .val v=>match v with
  | .bool b=>
   bif b then (bif J then tC x I o (nA T d true) H G j else xR o (nA T d true) H G j)
   else (bif J then xR o (nA T d false) H G j else tC x I o (nA T d false) H G j)
  | _=>xR o T H G j
 | _=>none
def CI (x:Cx R) (ops:Array Oper) (j:Bool) (o:Oper) (T:List AV) (H:Hp) (J:Tl) (I:Lk R):Option R:=
 match o.guard with
 | none=>tC x j o T H J I
 | some G=>match (ops[G.1]?).bind (·.dst) with
  | some d=>KZ x j o d G.2 T H J I
  | none=>none
def ln (x:Cx R) (ops:Array Oper):List (Bool×Oper)→List AV→Hp→Tl→Lk R→Option R
 | [],T,H,j,k=>k T H j
 | o :: l,T,H,j,k=>CI x ops o.1 o.2 T H j fun T H j=>ln x ops l T H j k
def gz (o:Oper):List Nat:=(o.after.toList.filter (Region.binds .any)).map (·.on)
def ml (ops:List Oper):List (List Nat):=
 ops.foldl (fun j o=>j ++ [((gz o) ++ (gz o).flatMap fun e=>j.getD e []).eraseDups]) []
def FP (c:List (List Nat)) (n m:Nat):Bool:=(List.range n).all fun d=>decide (d < m) ||(List.range d).all fun i=>(c.getD d []).contains i
def Cy (c:List (List Nat)) (n:Nat):Nat:=((List.range (n+1)).find? fun m=>FP c n m).getD n
def BN (ops:Array Oper):Bool:=
 let l:=ops.toList
 let c:=ml l
 let m:=Cy c l.length
 c.length==l.length&&FP c l.length m&&decide (m≤l.length)&&
 ((List.range l.length).all fun d=>match l[d]? with
  | none=>false
  | some o=>(gz o).all (fun e=>decide (e < d))&&(c.getD d []).all fun i=>(gz o).contains i ||(gz o).any fun e=>(c.getD e []).contains i)&&
 ((List.range m).all fun i=>match l[i]? with
  | none=>false
  | some o=>(List.range m).all fun j=>match l[j]? with
   | none=>false
   | some G=>(i==j ||o.dst.isNone || !(o.dst==G.dst))&&(match G.dst with | none=>true | some t=> !(o.looksAt ops).contains t ||((c.getD i []).contains j ||(c.getD j []).contains i)))
def C0 (l:List (Nat×Bool)):Bool:=l.all fun x=> !x.2
def apart:Tch→Tch→Bool
 | .some false [],_=>true
 | _, .some false []=>true
 | .some a l, .some b m=>(!a ||C0 m)&&(!b ||C0 l)&&l.all fun x=>m.all fun y=> !(x.1==y.1) ||(!x.2&& !y.2)
 | _,_=>false
def Tch.rd:Tch→Bool
 | .all=>true
 | .some a _=>a
def Tch.ls:Tch→List (Nat×Bool)
 | .all=> []
 | .some _ l=>l
def Tch.isSome:Tch→Bool
 | .all=>false
 | .some _ _=>true
def Bf (a b:Tch×Nat×Nat):Bool:=apart a.1 b.1&&(!a.1.rd ||decide (b.2.2≤b.2.1))&&b.1.ls.all fun y=> !(decide (a.2.1≤y.1)&&decide (y.1 < a.2.2))
def ca (ops:Array Oper):Nat:=Cy (ml ops.toList) ops.size
def GL (ops:Array Oper) (G:Tl):Bool:=
 (List.range (ca ops)).all fun j=>(match G.reverse[j]? with | some a=>a.1.isSome&&a.1.ls.all (fun y=>decide (y.1 < a.2.1)) | none=>false)&&(List.range j).all fun i=>((ml ops.toList).getD j []).contains i ||(match G.reverse[i]?,G.reverse[j]? with | some a,some b=>Bf a b | _,_=>false)
def jj (ops:Array Oper):List (Bool×Oper):=ops.toList.zipIdx.map fun p=>(decide (p.2 < ca ops),p.1)
def Ck (T:List AV) (c:Operand) (b:Bool):List AV:=match c with | .tmp d=>nA T d b | _=>T
abbrev Cn (R:Type):=Ex→List AV→Hp→Option R
def tF (j:List AV→Hp→Cn R→Option R):Nat→List AV→Hp→Cn R→Option R
 | 0,_,_,_=>none
 | n+1,T,H,k=>j T H fun e T H=>match e with
  | .normal=>tF j n T H k
  | e=>k e T H
def cX (keep:List Nat) (T:List AV):List AV:=T.mapIdx fun i v=>bif keep.contains i then v else .any
def ya:List Nat→Bool
 | []=>true
 | i :: l=> !l.contains i&&ya l
def qA (r:List Nat) (T:List AV) (H:Hp):Bool:=ya r&&(e8 T).all (fun i=>r.contains i)&&r.all fun i=>match H[i]? with | some b=>b.ids.all (fun j=>r.contains j) | none=>false
def eW (r:List Nat) (H:Hp):Hp:=r.map fun i=>match H[i]? with | some b=>yH (idx r) b | none=> .row (.cells []) 0 .dead
def tv (r:List Nat) (T:List AV) (H:Hp) (k:List AV→Hp→Option R):Option R:=bif qA r T H then k (eQ (idx r) T) (eW r H) else none
def oC (keep:List Nat) (T:List AV) (H:Hp) (k:List AV→Hp→Option R):Option R:=tv (reach H 1000 (e8 (cX keep T)) []) (cX keep T) H k
def u9 (keep:List Nat):List Nat:=(keep.filter fun i=>decide (1000≤i)).map (· - 1000)
def oR (keep:List Nat):bG→bG
 | .loop r=> .loop { r with T:=cX (u9 keep) r.T }
 | .row c ty st=> .row c ty st
def iF (keep:List Nat) (H:Hp):Hp:=H.map (oR keep)
def xJ (fb:Nat) (r:List Nat):Bool:=(List.range fb).all fun i=>match r[i]? with | some j=>j==i | none=>false
def Cu (fb:Nat) (r:List Nat) (T:List AV) (H:Hp) (k:List AV→Hp→Option R):Option R:=bif qA r T H&&xJ fb r then k (eQ (idx r) T) (eW r H) else none
def xK (fb:Nat) (keep:List Nat) (T:List AV) (H:Hp) (k:List AV→Hp→Option R):Option R:=Cu fb (reach (iF keep H) 1000 (List.range fb ++ e8 (cX keep T)) []) (cX keep T) (iF keep H) k
def DZ (x:Cx R) (ops:Array Oper) (j:Bool) (T:List AV) (H:Hp) (k:Cn R):Option R:=
 bif j then bif BN ops then ln x ops (jj ops) T H [] fun T H G=>bif GL ops G then k .normal T H else none else none
 else ln x ops (ops.toList.map fun o=>(false,o)) T H [] fun T H _=>k .normal T H
def aby (B:List AV→Hp→Cn R→Option R) (k:Cn R):Cn R:=fun e T H=>
 match e with
 | .normal=>B T H k
 | e=>k e T H
def Jw (id:Nat) (k:Cn R):Cn R:=fun e T H=>
 match e with
 | .exit j=>bif j==id then k .normal T H else k (.exit j) T H
 | e=>k e T H
def JV (c:Operand) (A B:List AV→Hp→Cn R→Option R) (T:List AV) (H:Hp) (k:Cn R):Option R:=
 match aA T c with
 | .val v=>match v with
  | .bool t=>bif t then A (Ck T c true) H k else B (Ck T c false) H k
  | _=>none
 | _=>none
def vK (q:Option (Bool×Ex×List AV×Hp)) (k:Cn R):Option R:=
 match q with
 | some r=>bif r.1 then k r.2.1 r.2.2.1 r.2.2.2 else none
 | none=>none
def Lo (x:Cx R) (p:List Bool) (B:List AV→Hp→Cn R→Option R) (T:List AV) (H:Hp) (k:Cn R):Option R:=
 match x.E.L x.g x.fb p with
 | some s=>bif x.rd then tF B x.u T H k else
   bif x.fb==0 then oC s.1 T H fun T H=>vK (s.2 T H) k
   else bif x.lo==0 then (bif s.1.any (fun i=>decide (1000≤i)) then xK x.fb s.1 T H fun T H=>vK (s.2 T H) k else vK (s.2 (cX s.1 T) H) k) else none
 | none=>tF B x.u T H k
def DU (i:Nat) (T:List AV) (k:Cn R):Kn R:=fun _ j=>
 match j[i]? with
 | some (.loop r)=>
  bif r.st== .busy then none else
  match r.bN with
  | none=>k .normal T (j.set i (.loop { r with st:= .exhausted }))
  | some .ret=>k .ret T (j.set i (.loop { r with st:= .exhausted }))
  | some (.exit n)=>k (.exit n) T (j.set i (.loop { r with st:= .exhausted }))
 | _=>none
def DT (x:Cx R) (f:Operand) (params:Array Tmp) (p:List Bool) (T:List AV) (H:Hp) (k:Cn R):Option R:=
 bif x.rd then none else
 match funcOf (aA T f) with
 | some q=>bif fH x.P q.1 then
   x.cf x.lo q.1 (q.2.1 ++ [.yld H.length] ++ q.2.2) (H ++ [.loop { T:=T,params:=params,g:=x.g,path:=p,st:= .ready,bN:=none }]) (DU H.length T k)
  else none
 | none=>none
def exec (x:Cx R):Code→List Bool→List AV→Hp→Cn R→Option R
 | .skip,_,T,H,k=>k .normal T H
 | .region _ ops G,_,T,H,k=>DZ x ops G T H k
 | .seq a b,p,T,H,k=>exec x a (false :: p) T H (aby (exec x b (true :: p)) k)
 | .cond c a b,p,T,H,k=>JV c (exec x a (false :: p)) (exec x b (true :: p)) T H k
 | .block id j,p,T,H,k=>exec x j (false :: p) T H (Jw id k)
 | .loop j,p,T,H,k=>Lo x p (exec x j (false :: p)) T H k
 | .exit id,_,T,H,k=>k (.exit id) T H
 | .scope j,p,T,H,k=>exec x j (false :: p) T H k
 | .label _,_,T,H,k=>k .normal T H
 | .ret,_,T,H,k=>k .ret T H
 | .rangeFunc f params _ _,p,T,H,k=>DT x f params p T H k
 | _,_,_,_,_=>none
def Eb (T:List AV) (H:Hp) (x:ResultVar) (k:AV→Option R):Option R:=
 match x with
 | .tmp t=>k (aA T (.tmp t))
 | .cell x t=>oO P H t (aA T (.tmp x)) k
def vc (T:List AV) (H:Hp):List ResultVar→(List AV→Option R)→Option R
 | [],k=>k []
 | x :: l,k=>Eb P T H x fun v=>vc T H l fun vs=>k (v :: vs)
def qS:List AV→AV
 | [v]=>v
 | vs=> .tup vs
def vn (T:List AV) (ps:List Tmp) (args:List AV):List AV:=(ps.zip args).foldl (fun T p=>T.set p.1 p.2) T
def Ec (j:Func) (k:Kn R):Cn R:=fun e T H=>
 match e with
 | .exit _=>none
 | _=>vc P T H j.results.toList fun vs=>k (qS vs) H
def xA (i:Nat) (k:Kn R):Cn R:=fun e I j=>
 match j[i]? with
 | some (.loop G)=>match e with
  | .normal=>k (.val (.bool true)) (j.set i (.loop { G with st:= .ready,bN:=none }))
  | .ret=>k (.val (.bool false)) (j.set i (.loop { G with st:= .done,bN:=some .ret }))
  | .exit n=>k (.val (.bool false)) (j.set i (.loop { G with st:= .done,bN:=some (.exit n) }))
 | _=>none
def Bk (i:Nat) (B:Nat→List AV→Hp→Cn R→Option R) (k:Kn R):Cn R:=fun e I j=>
 match e with
 | .normal=>match j[i]? with
  | some (.loop G)=>bif G.st== .ready then B j.length I (j.set i (.loop { G with st:= .busy })) (xA i k) else none
  | _=>none
 | _=>none
mutual
def gw (E:Env) (u:Nat):Nat→Nat→FuncId→List AV→Hp→(AV→Hp→Option R)→Option R
 | 0,_,_,_,_,_=>none
 | d+1,lo,g,args,H,k=>
  match P.funcs[g]? with
  | none=>none
  | some j=>
   match j.body with
   | none=>none
   | some c=>bif decide (lo≤H.length) then exec ⟨P,E,gw E u d,kE E u d,u,H.length,lo,g,false⟩ c [] (args ++ List.replicate (j.ntmps - args.length) (.val undef)) H (Ec P j k) else none
def kE (E:Env) (u:Nat):Nat→Nat→Nat→List AV→Hp→(AV→Hp→Option R)→Option R
 | 0,_,_,_,_,_=>none
 | d+1,lo,i,args,H,k=>
  match H[i]? with
  | some (.loop r)=>
   match aJ P r.g r.path with
   | some (.rangeFunc _ _ G I)=>
    bif r.st== .ready&&args.length==r.params.size&&decide (lo≤i) then
     exec ⟨P,E,gw E u d,kE E u d,u,H.length,lo,r.g,true⟩ G (false :: r.path) (vn r.T r.params.toList args) H
      (Bk i (fun fb=>exec ⟨P,E,gw E u d,kE E u d,u,fb,lo,r.g,true⟩ I (true :: r.path)) k)
    else none
   | _=>none
  | _=>none
end
def aD (E:Env) (u d:Nat) (g:FuncId) (args:List AV):Option AV:=
 gw P E u d 0 g args [] fun v H=>kH P H 8 v some
end
end Go.V
end
namespace Go.V
open Go Go.RowKit
def bd (h:Hf) (n:Nat) (k:Option bG):Hf:=fun m=>if m=n then k else h m
def eG (α:Nat→Nat×Nat) (n:Nat) (x:Nat×Nat):Nat→Nat×Nat:=fun m=>if m=n then x else α m
def fj (D:Nat→Prop) (n:Nat):Nat→Prop:=fun m=>D m∨m=n
@[simp] theorem cG (h:Hf) (n:Nat) (k:Option bG):bd h n k n=k:=if_pos rfl
theorem bK (h:Hf) {n m:Nat} (k:Option bG) (e:m≠n):bd h n k m=h m:=if_neg e
@[simp] theorem eH (α:Nat→Nat×Nat) (n:Nat) (x:Nat×Nat):eG α n x n=x:=if_pos rfl
theorem eS (α:Nat→Nat×Nat) {n m:Nat} (x:Nat×Nat) (e:m≠n):eG α n x m=α m:=if_neg e
section
variable {P : Program} {B0 : Nat → Prop} {w0 : World} {D D' : Nat → Prop} {α α' : Nat → Nat × Nat} {h h' : Hf} {w w' : World}
theorem cM.mono {B B':Nat→Prop} {k:bG} {a:Nat×Nat} (S:eJ D D' α α' B B' w w') (O:∀ o,w.heap[a.1]? =some o→(k.isLive=true∨k.jH=true)→w'.heap[a.1]? =some o) (j:cM P α B w D k a):cM P α' B' w' D' k a:=by
 cases k with
 | row c ty st=>
  rcases j with j | ⟨cs,fr,G,I,J,M,N⟩
  ·exact .inl j
  ·by_cases U:st= .dead
   ·exact .inl U
   ·refine .inr ⟨cs,fr,O _ G ?_,I,J,M,ao.mono _ _ S N⟩
    cases st
    ·exact .inl rfl
    ·exact .inr rfl
    ·exact absurd rfl U
 | loop r=>
  obtain ⟨L,G,I,J,M,N,Z⟩:=j
  exact ⟨L,O _ G (.inl rfl),I,J,M,N,ao.mono _ _ S Z⟩
theorem oT (j:Ok P B0 w0 D α h w) (G:Below w.heap.size w w'):Ok P B0 w0 D α h w'∧bB D D α α (aQ D α h) (aQ D α h) w w':=by
 have N:bB D D α α (aQ D α h) (aQ D α h) w w':= ⟨fun _ h=>h,fun _ _=>rfl,fun b o I S=> ⟨S,(G.block b (Array.getElem?_eq_some_iff.1 I).1).trans I⟩⟩
 have Z:=j.below.size
 have ab:=G.size
 refine ⟨⟨j.lt,j.below.trans (G.mono Z),fun b M=> ?_,j.sep,fun i J=> ?_,j.inj,j.cV,fun i k J U=> ?_⟩,N⟩
 ·have I:=(j.cJ b M).1
  exact ⟨by omega,fun ds=>by rw [G.block b I];exact (j.cJ b M).2 ds⟩
 ·have:=j.fresh i J;omega
 ·exact cM.mono (N.keeps B0) (fun o O _=>(G.block _ (Array.getElem?_eq_some_iff.1 O).1).trans O) (j.cN i k J U)
theorem wD (w:World):Below w.heap.size w w.drew:=(Below.refl _ w).drew
theorem C4 (J:Ok P B0 w0 D α h w) {n:Nat} (bx:¬ D n) {o:Obj} (b3:∀ ds,o≠ .deferred ds) {k:bG} (a3:k.isLive=true) {sz:Nat}
  (a7:∀ D' α' B' w',eJ D D' α α' (Own B0 D α h) B' w w'→w'.heap[w.heap.size]? =some o→cM P α' B' w' D' k (w.heap.size,sz)):
  Ok P B0 w0 (fj D n) (eG α n (w.heap.size,sz)) (bd h n (some k)) (w.alloc o)∧bB D (fj D n) α (eG α n (w.heap.size,sz)) (aQ D α h) (aQ (fj D n) (eG α n (w.heap.size,sz)) (bd h n (some k))) w (w.alloc o):=by
 have I:∀ i,D i→i≠n:=fun i j e=>bx (e ▸ j)
 have a1:∀ b,aQ (fj D n) (eG α n (w.heap.size,sz)) (bd h n (some k)) b↔aQ D α h b∨b=w.heap.size:=by
  intro b
  constructor
  ·rintro ⟨i,a2,j | j,G,M,O⟩
   ·rw [bK _ _ (I i j)] at G
    rw [eS _ _ (I i j)] at O
    exact .inl ⟨i,a2,j,G,M,O⟩
   ·subst j;rw [eH] at O;exact .inr O.symm
  ·rintro (⟨i,a2,j,G,M,O⟩ | rfl)
   ·exact ⟨i,a2, .inl j,by rw [bK _ _ (I i j)];exact G,M,by rw [eS _ _ (I i j)];exact O⟩
   ·exact ⟨n,k, .inr rfl,cG _ _ _,a3,by rw [eH]⟩
 have a0:bB D (fj D n) α (eG α n (w.heap.size,sz)) (aQ D α h) (aQ (fj D n) (eG α n (w.heap.size,sz)) (bd h n (some k))) w (w.alloc o):=by
  refine ⟨fun _ h=> .inl h,fun i j=>eS _ _ (I i j),fun b b2 G M=> ?_⟩
  have a6:=(Array.getElem?_eq_some_iff.1 G).1
  exact ⟨fun h=>((a1 b).1 h).elim M (fun e=>by omega),(Below.heap_alloc _ _ _ a6).trans G⟩
 have bD:(w.alloc o).heap[w.heap.size]? =some o:=World.alloc_heap_new w o
 have b0:=J.below.size
 refine ⟨⟨?_,J.below.alloc b0 _,fun b U=> ?_,fun b U N=> ?_, ?_, ?_, ?_, ?_⟩,a0⟩
 ·rintro i (j | rfl)
  ·rw [bK _ _ (I i j)];exact J.lt i j
  ·exact ⟨k,cG _ _ _⟩
 ·have G:=(J.cJ b U).1
  exact ⟨by rw [World.size_alloc];omega,fun ds=>by rw [Below.heap_alloc _ _ _ G];exact (J.cJ b U).2 ds⟩
 ·rcases (a1 b).1 N with G | G
  ·exact J.sep b U G
  ·have:=(J.cJ b U).1;omega
 ·rintro i (j | rfl)
  ·rw [eS _ _ (I i j),World.size_alloc]
   have:=J.fresh i j
   omega
  ·rw [eH,World.size_alloc];simp only;omega
 ·rintro i ab k1 b1 (j | rfl) (Z | rfl) G M O a5 S
  ·rw [bK _ _ (I i j)] at G
   rw [bK _ _ (I ab Z)] at M
   rw [eS _ _ (I i j),eS _ _ (I ab Z)] at S
   exact J.inj i ab k1 b1 j Z G M O a5 S
  ·rw [eS _ _ (I i j),eH] at S
   have:=J.fresh i j
   simp only at S
   omega
  ·rw [eS _ _ (I ab Z),eH] at S
   have:=J.fresh ab Z
   simp only at S
   omega
  ·rfl
 ·rintro i k1 (j | rfl) G M N
  ·rw [bK _ _ (I i j)] at G
   rw [eS _ _ (I i j)] at N
   rcases N with N | N
   ·exact J.cV i k1 j G M (.inl N)
   ·rcases (a1 _).1 N with N | N
    ·exact J.cV i k1 j G M (.inr N)
    ·have:=J.fresh i j;omega
  ·rw [cG] at G
   cases G
   cases k with
   | row c ty st=>cases st <;> simp [bG.isLive,bG.jH] at a3 M
   | loop r=>simp [bG.jH] at M
 ·rintro i k1 (j | rfl) G
  ·rw [bK _ _ (I i j)] at G
   rw [eS _ _ (I i j)]
   exact cM.mono (a0.keeps B0) (fun b2 a4 _=>(Below.heap_alloc _ _ _ (Array.getElem?_eq_some_iff.1 a4).1).trans a4) (J.cN i k1 j G)
  ·rw [cG] at G
   cases G
   rw [eH]
   exact a7 _ _ _ _ (a0.keeps B0) bD
theorem C5 (M:Ok P B0 w0 D α h w) {i:Nat} (ab:D i) {N k1:bG} (S:h i=some N) (U:N.isLive=true) (b0:k1.isLive=true) (b1:w'.heap.size=w.heap.size) (a6:∀ b,b≠(α i).1→w'.heap[b]? =w.heap[b]?)
  (b7:∀ B,B≤(α i).1→Below B w w') (a3:eJ D D α α (Own B0 D α h) (Own B0 D α (bd h i (some k1))) w w'→cM P α (Own B0 D α (bd h i (some k1))) w' D k1 (α i)):
  Ok P B0 w0 D α (bd h i (some k1)) w'∧bB D D α α (aQ D α h) (aQ D α (bd h i (some k1))) w w':=by
 have a7:∀ b,aQ D α (bd h i (some k1)) b↔aQ D α h b:=by
  intro b
  constructor
  ·rintro ⟨j,Z,I,G,J,O⟩
   by_cases e:j=i
   ·subst e;exact ⟨j,N,I,S,U,O⟩
   ·rw [bK _ _ e] at G;exact ⟨j,Z,I,G,J,O⟩
  ·rintro ⟨j,Z,I,G,J,O⟩
   by_cases e:j=i
   ·subst e;exact ⟨j,k1,I,cG _ _ _,b0,O⟩
   ·exact ⟨j,Z,I,by rw [bK _ _ e];exact G,J,O⟩
 have a5:bB D D α α (aQ D α h) (aQ D α (bd h i (some k1))) w w':=
  ⟨fun _ h=>h,fun _ _=>rfl,fun b o G J=> ⟨fun h=>J ((a7 b).1 h),(a6 b (fun e=>J (e ▸ ⟨i,N,ab,S,U,rfl⟩))).trans G⟩⟩
 refine ⟨⟨fun j I=> ?_,M.below.trans (b7 _ (M.fresh i ab).1),fun b a2=> ?_,fun b a2 a4=>M.sep b a2 ((a7 b).1 a4),fun j I=>by rw [b1];exact M.fresh j I, ?_, ?_, ?_⟩,a5⟩
 ·by_cases e:j=i
  ·subst e;exact ⟨k1,cG _ _ _⟩
  ·rw [bK _ _ e];exact M.lt j I
 ·have G:=M.cJ b a2
  refine ⟨by rw [b1];exact G.1,fun ds=> ?_⟩
  rw [a6 b (fun e=>M.sep b a2 (e ▸ ⟨i,N,ab,S,U,rfl⟩))]
  exact G.2 ds
 ·intro a b ct c1 bx bD G J O b5 b6
  have get:∀ j k,D j→bd h i (some k1) j=some k→k.isLive=true→∃ Z,h j=some Z∧Z.isLive=true:=by
   intro j k I a3 b8
   by_cases e:j=i
   ·subst e;exact ⟨N,S,U⟩
   ·rw [bK _ _ e] at a3;exact ⟨k,a3,b8⟩
  obtain ⟨c0,b2,a1⟩:=get a ct bx G O
  obtain ⟨c2,b3,b4⟩:=get b c1 bD J b5
  exact M.inj a b c0 c2 bx bD b2 b3 a1 b4 b6
 ·intro j k I G J a4
  by_cases e:j=i
  ·subst e
   rw [cG] at G
   cases G
   cases k1 with
   | row c ty st=>cases st <;> simp [bG.isLive,bG.jH] at b0 J
   | loop r=>simp [bG.jH] at J
  ·rw [bK _ _ e] at G
   exact M.cV j k I G J (a4.elim .inl (fun h=> .inr ((a7 _).1 h)))
 ·intro j k I G
  by_cases e:j=i
  ·subst e
   rw [cG] at G
   cases G
   exact a3 (a5.keeps B0)
  ·rw [bK _ _ e] at G
   refine cM.mono (a5.keeps B0) (fun o ch a0=>(a6 _ (fun a1=> ?_)).trans ch) (M.cN j k I G)
   rcases a0 with a0 | a0
   ·exact e (M.inj j i k N I ab G S a0 U a1)
   ·exact M.cV j k I G a0 (.inr (a1 ▸ ⟨i,N,ab,S,U,rfl⟩))
theorem LQ (J:Ok P B0 w0 D α h w) {i:Nat} (a1:D i) {c c':aC} {ty:TypeId} {st:rV} (Z:h i=some (.row c ty .live)) (a5:st= .dead∨st= .froz∧c'=c):
  Ok P B0 w0 D α (bd h i (some (.row c' ty st))) w∧bB D D α α (aQ D α h) (aQ D α (bd h i (some (.row c' ty st)))) w w:=by
 have a4:(bG.row c' ty st).isLive=false:=by rcases a5 with rfl | ⟨rfl,_⟩ <;> rfl
 have U:∀ b,aQ D α (bd h i (some (.row c' ty st))) b→aQ D α h b∧b≠(α i).1:=by
  rintro b ⟨G,a6,N,j,I,O⟩
  by_cases e:G=i
  ·subst e;rw [cG] at j;cases j;rw [a4] at I;cases I
  ·rw [bK _ _ e] at j
   exact ⟨⟨G,a6,N,j,I,O⟩,fun b0=>e (J.inj G i a6 _ N a1 j Z I rfl (O.trans b0))⟩
 have a0:bB D D α α (aQ D α h) (aQ D α (bd h i (some (.row c' ty st)))) w w:= ⟨fun _ h=>h,fun _ _=>rfl,fun b o j I=> ⟨fun h=>I (U b h).1,j⟩⟩
 refine ⟨⟨fun G N=> ?_,J.below,J.cJ,fun b b2 M=>J.sep b b2 (U b M).1,J.fresh, ?_, ?_, ?_⟩,a0⟩
 ·by_cases e:G=i
  ·subst e;exact ⟨_,cG _ _ _⟩
  ·rw [bK _ _ e];exact J.lt G N
 ·intro a b a7 bx b3 b4 j I O S ab
  have bD:∀ G k,bd h i (some (.row c' ty st)) G=some k→k.isLive=true→G≠i:=by
   rintro G k a2 a3 rfl
   rw [cG] at a2
   cases a2
   rw [a4] at a3
   cases a3
  have ea:=bD a a7 j O
  have b1:=bD b bx I S
  rw [bK _ _ ea] at j
  rw [bK _ _ b1] at I
  exact J.inj a b a7 bx b3 b4 j I O S ab
 ·intro G k N j I M
  by_cases e:G=i
  ·subst e
   rcases M with M | M
   ·exact J.sep _ M ⟨G,_,a1,Z,rfl,rfl⟩
   ·exact (U _ M).2 rfl
  ·rw [bK _ _ e] at j
   exact J.cV G k N j I (M.elim .inl (fun h=> .inr (U _ h).1))
 ·intro G k N j
  by_cases e:G=i
  ·subst e
   rw [cG] at j
   cases j
   rcases a5 with rfl | ⟨rfl,rfl⟩
   ·exact .inl rfl
   ·rcases J.cN G _ a1 Z with b5 | ⟨cs,fr,j,I,O,S,ab⟩
    ·cases b5
    ·exact .inr ⟨cs,fr,j,I,(fun h=>by cases h),S,ao.mono _ _ (a0.keeps B0) ab⟩
  ·rw [bK _ _ e] at j
   exact cM.mono (a0.keeps B0) (fun o b6 _=>b6) (J.cN G k N j)
theorem Y5 (N:Ok P B0 w0 D α h w) {i n:Nat} (ab:D i) (c4:¬ D n) {c c':aC} {ty:TypeId} (a2:h i=some (.row c ty .live)):
  Ok P B0 w0 (fj D n) (eG α n (α i)) (bd (bd h i (some (.row c' ty .dead))) n (some (.row c ty .live))) w∧bB D (fj D n) α (eG α n (α i)) (aQ D α h) (aQ (fj D n) (eG α n (α i)) (bd (bd h i (some (.row c' ty .dead))) n (some (.row c ty .live)))) w w:=by
 have M:∀ j,D j→j≠n:=fun j I e=>c4 (e ▸ I)
 have a5:∀ b,aQ (fj D n) (eG α n (α i)) (bd (bd h i (some (.row c' ty .dead))) n (some (.row c ty .live))) b↔aQ D α h b:=by
  intro b
  constructor
  ·rintro ⟨j,S,I | I,G,J,O⟩
   ·rw [bK _ _ (M j I)] at G
    rw [eS _ _ (M j I)] at O
    by_cases e:j=i
    ·subst e;rw [cG] at G;cases G;cases J
    ·rw [bK _ _ e] at G;exact ⟨j,S,I,G,J,O⟩
   ·subst I;rw [eH] at O;exact ⟨i,_,ab,a2,rfl,O⟩
  ·rintro ⟨j,S,I,G,J,O⟩
   by_cases e:j=i
   ·subst e;exact ⟨n,_, .inr rfl,cG _ _ _,rfl,by rw [eH];exact O⟩
   ·exact ⟨j,S, .inl I,by rw [bK _ _ (M j I),bK _ _ e];exact G,J,by rw [eS _ _ (M j I)];exact O⟩
 have a3:bB D (fj D n) α (eG α n (α i)) (aQ D α h) (aQ (fj D n) (eG α n (α i)) (bd (bd h i (some (.row c' ty .dead))) n (some (.row c ty .live)))) w w:=
  ⟨fun _ h=> .inl h,fun j I=>eS _ _ (M j I),fun b o G J=> ⟨fun h=>J ((a5 b).1 h),G⟩⟩
 have bx:∀ j k,fj D n j→bd (bd h i (some (.row c' ty .dead))) n (some (.row c ty .live)) j=some k→k.isLive=true→∃ U S,D U∧h U=some S∧S.isLive=true∧(α U).1=(eG α n (α i) j).1∧(U=i↔j=n)∧(j≠n→U=j):=by
  rintro j k (I | rfl) G J
  ·rw [bK _ _ (M j I)] at G
   have e:j≠i:=by
    rintro rfl
    rw [cG] at G
    cases G
    cases J
   rw [bK _ _ e] at G
   exact ⟨j,k,I,G,J,by rw [eS _ _ (M j I)], ⟨fun h=>absurd h e,fun h=>absurd h (M j I)⟩,fun _=>rfl⟩
  ·exact ⟨i,_,ab,a2,rfl,by rw [eH], ⟨fun _=>rfl,fun _=>rfl⟩,fun h=>absurd rfl h⟩
 refine ⟨⟨?_,N.below,N.cJ,fun b c1 Z=>N.sep b c1 ((a5 b).1 Z), ?_, ?_, ?_, ?_⟩,a3⟩
 ·rintro j (I | rfl)
  ·rw [bK _ _ (M j I)]
   by_cases e:j=i
   ·subst e;exact ⟨_,cG _ _ _⟩
   ·rw [bK _ _ e];exact N.lt j I
  ·exact ⟨_,cG _ _ _⟩
 ·rintro j (I | rfl)
  ·rw [eS _ _ (M j I)];exact N.fresh j I
  ·rw [eH];exact N.fresh i ab
 ·intro a b c5 c7 c2 c3 G J O ct c0
  obtain ⟨a0,c6,b0,b1,b2,b3,a6,b4⟩:=bx a c5 c2 G O
  obtain ⟨a1,c8,b5,b6,b7,b8,a7,ch⟩:=bx b c7 c3 J ct
  have e:a0=a1:=N.inj a0 a1 c6 c8 b0 b5 b1 b6 b2 b7 (b3.trans (c0.trans b8.symm))
  by_cases ea:a=n
  ·have:a1=i:=e ▸ a6.2 ea
   rw [ea,a7.1 this]
  ·by_cases bD:b=n
   ·have:a0=i:=e.symm ▸ a7.2 bD
    exact absurd (a6.1 this) ea
   ·rw [← b4 ea,← ch bD,e]
 ·rintro j k (I | rfl) G J Z
  ·rw [bK _ _ (M j I)] at G
   rw [eS _ _ (M j I)] at Z
   by_cases e:j=i
   ·subst e;rw [cG] at G;cases G;cases J
   ·rw [bK _ _ e] at G
    exact N.cV j k I G J (Z.elim .inl (fun h=> .inr ((a5 _).1 h)))
  ·rw [cG] at G;cases G;cases J
 ·rintro j k (I | rfl) G
  ·rw [bK _ _ (M j I)] at G
   rw [eS _ _ (M j I)]
   by_cases e:j=i
   ·subst e;rw [cG] at G;cases G;exact .inl rfl
   ·rw [bK _ _ e] at G
    exact cM.mono (a3.keeps B0) (fun o a4 _=>a4) (N.cN j k I G)
  ·rw [cG] at G
   cases G
   rw [eH]
   exact cM.mono (a3.keeps B0) (fun o a4 _=>a4) (N.cN i _ ab a2)
end
end Go.V
namespace Go.V
open Go Go.RowKit
def W (ro:Option Nat):Fence:= { Fence.wide with round:=ro }
section
variable {P : Program} {B0 : Nat → Prop} {w0 : World} {ro : Option Nat} {T : List AV} {o : Oper}
theorem rS {a:Act} {w w':World} {K:Act→World→Prop} {Q:Exit→Act→World→Prop} {x:Value} (G:∀ c,o.op≠ .defer c) (I:(execOp a.eval o).run P w= .ok (.value x) w') (j:K (a.put o.dst x) w'):o.wpIn (W ro) 0 P a w K Q:=
 ⟨fun _ _=>trivial,by rw [Oper.semAt_eq _ _ _ G,I];exact j⟩
theorem aep {a:Act} {w w':World} {K:Act→World→Prop} {Q:Exit→Act→World→Prop} (G:∀ c,o.op≠ .defer c) (I:(execOp a.eval o).run P w= .ok .skip w') (j:K (a.put o.dst undef) w'):o.wpIn (W ro) 0 P a w K Q:=
 ⟨fun _ _=>trivial,by rw [Oper.semAt_eq _ _ _ G,I];exact j⟩
def Ii (D:Nat→Prop) (h j:Hf) (n G:Nat) (rd:Bool):Prop:=(∀ i,n≤i→(i < G∨rd=true)→¬ D i)∧(rd=true→∀ i,D i→h i=j i)
def og (P:Program) (B0:Nat→Prop) (w0:World) (I:Option Nat) (T:List AV) (o:Oper) (G h:Hf) (n j:Nat) (v:AV) (h':Hf) (rd:Bool):Prop:=
 ∀ (ro:Option Nat) (D:Nat→Prop) (α:Nat→Nat×Nat) (a:Act) (w:World) (K:Act→World→Prop) (Q:Exit→Act→World→Prop),Ok P B0 w0 D α h w→Ii D h G n j rd→(∀ x ∈ o.op.operands,(aA T x).Rel P α (Own B0 D α h) w D (a.eval x))→
  (∀ D' α' w' x,Ok P B0 w0 D' α' h' w'→(∀ i,D' i→D i∨(n≤i∧i < j))→bB D D' α α' (aQ D α h) (aQ D' α' h') w w'→v.Rel P α' (Own B0 D' α' h') w' D' x→K (a.put o.dst x) w')→o.wpIn (W ro) 0 P a w K Q
def cg (h:Hf) (H j:Hp) (l:List (Nat×Bool)):Hf:=fun m=>if (m,true) ∈ l∨(H.length≤m∧m < j.length) then j[m]? else h m
def me (P:Program) (B0:Nat→Prop) (w0:World) (ro:Option Nat) (T:List AV) (o:Oper) (H:Hp) (v:AV) (j:Hp) (G:Tch):Prop:=
 H.length≤j.length∧match G with
 | .all=>og P B0 w0 ro T o (H[·]?) (H[·]?) H.length j.length v (j[·]?) true
 | .some rd l=>(∀ m,m < H.length→(m,true) ∉ l→j[m]? =H[m]?)∧∀ h:Hf,(∀ m,(∃ b,(m,b) ∈ l)→m < H.length→h m=H[m]?)→og P B0 w0 ro T o (H[·]?) h H.length j.length v (cg h H j l) rd
theorem me.sY {H j:Hp} {v:AV} {J:Tch} (G:me P B0 w0 ro T o H v j J):og P B0 w0 ro T o (H[·]?) (H[·]?) H.length j.length v (j[·]?) true:=by
 obtain ⟨ab,G⟩:=G
 cases J with
 | all=>exact G
 | some rd l=>
  have:=G.2 (H[·]?) (fun _ _ _=>rfl)
  have e:cg (H[·]?) H j l=(j[·]?):=by
   funext m
   unfold cg
   split
   ·rfl
   ·rename_i I
    by_cases U:m < H.length
    ·exact (G.1 m U (fun h=>I (.inl h))).symm
    ·have:¬ m < j.length:=fun h=>I (.inr ⟨by omega,h⟩)
     show H[m]? =j[m]?
     rw [List.getElem?_eq_none (by omega),List.getElem?_eq_none (by omega)]
  rw [e] at this
  exact fun ro D α a w K Q N Z O M=>this ro D α a w K Q N ⟨fun i S _=>Z.1 i S (.inr rfl),fun _ _ _=>rfl⟩ O M
theorem KT {H:Hp} {v:AV} {rd:Bool} {l:List (Nat×Bool)} (a1:∀ m,(m,true) ∈ l→m < H.length) (ab:∀ c,o.op≠ .defer c)
  (a0:∀ (h:Hf) (D:Nat→Prop) (α:Nat→Nat×Nat) (a:Act) (w:World),(∀ m b,(m,b) ∈ l→m < H.length→h m=H[m]?)→Ok P B0 w0 D α h w→(∀ x ∈ o.op.operands,(aA T x).Rel P α (Own B0 D α h) w D (a.eval x))→∃ x,(execOp a.eval o).run P w= .ok (.value x) w∧v.Rel P α (Own B0 D α h) w D x):
  me P B0 w0 ro T o H v H (.some rd l):=by
 refine ⟨Nat.le_refl _,fun _ _ _=>rfl,fun h I ro D α a w K Q G _ O N=> ?_⟩
 obtain ⟨x,J,M⟩:=a0 h D α a w (fun m b Z U=>I m ⟨b,Z⟩ U) G O
 have e:cg h H H l=h:=by
  funext m
  unfold cg
  split
  ·rename_i j
   rcases j with j | j
   ·exact (I m ⟨true,j⟩ (a1 m j)).symm
   ·omega
  ·rfl
 refine rS ab J (N D α w x (by rw [e];exact G) (fun i S=> .inl S) ?_ (by rw [e];exact M))
 rw [e]
 exact bB.refl _ _ _ _
theorem fy (v:AV) (m:Nat):(m,true) ∉ tid false v:=by
 cases v <;> simp [tid]
theorem Cz {H:Hp} {v:AV} {k:bG} {rd:Bool} {l:List (Nat×Bool)} (ab:∀ m,(m,true) ∈ l→m < H.length) (b5:∀ c,o.op≠ .defer c) (b3:k.isLive=true)
  (b7:∀ (h:Hf) (D:Nat→Prop) (α:Nat→Nat×Nat) (a:Act) (w:World),(∀ m b,(m,b) ∈ l→m < H.length→h m=H[m]?)→Ok P B0 w0 D α h w→(∀ x ∈ o.op.operands,(aA T x).Rel P α (Own B0 D α h) w D (a.eval x))→
   ∃ (G:World) (J:Obj) (sz:Nat) (x:Value),Below w.heap.size w G∧(∀ ds,J≠ .deferred ds)∧(execOp a.eval o).run P w= .ok (.value x) (G.alloc J)∧
    (∀ D' α' B' w',eJ D D' α α' (Own B0 D α h) B' w w'→w'.heap[G.heap.size]? =some J→cM P α' B' w' D' k (G.heap.size,sz))∧
    (∀ D' α' B' w',D' H.length→α' H.length=(G.heap.size,sz)→v.Rel P α' B' w' D' x)):
  me P B0 w0 ro T o H v (H ++ [k]) (.some rd l):=by
 refine ⟨by simp,fun m I _=>List.getElem?_append_left I,fun h Z ro D α a w K Q S b6 bx a5=> ?_⟩
 obtain ⟨G,J,sz,x,a0,a1,a2,a3,a4⟩:=b7 h D α a w (fun m b I b2=>Z m ⟨b,I⟩ b2) S bx
 have e:cg h H (H ++ [k]) l=bd h H.length (some k):=by
  funext m
  unfold cg bd
  by_cases I:m=H.length
  ·subst I
   rw [if_pos (.inr ⟨Nat.le_refl _,by simp⟩),if_pos rfl]
   simp
  ·rw [if_neg I]
   split
   ·rename_i j
    rcases j with j | ⟨j,M⟩
    ·rw [List.getElem?_append_left (ab m j)]
     exact (Z m ⟨true,j⟩ (ab m j)).symm
    ·simp at M;omega
   ·rfl
 have b4:¬ D H.length:=b6.1 _ (Nat.le_refl _) (.inl (by simp))
 obtain ⟨a6,U⟩:=oT S a0
 obtain ⟨a7,b0⟩:=C4 a6 b4 (o:=J) a1 b3 (sz:=sz) (fun D' α' B' w' N bD=>a3 D' α' B' w' ⟨N.le,N.same,fun b cs ty fr j M=>by
  have O:=(U.keeps B0).row b cs ty fr j M
  exact N.row b cs ty fr O.2 O.1⟩ bD)
 refine rS b5 a2 (a5 _ _ _ x (by rw [e];exact a7) ?_ ?_ (a4 (fj D H.length) (eG α H.length (G.heap.size,sz)) _ _ (Or.inr rfl) (eH _ _ _)))
 ·rintro i (b1 | rfl)
  ·exact .inl b1
  ·exact .inr ⟨Nat.le_refl _,by simp⟩
 ·rw [e];exact U.trans b0
theorem W2 {H:Hp} {v:AV} {O k:bG} {i:Nat} {rd:Bool} {l:List (Nat×Bool)} (J:H[i]? =some O) (M:∀ m,(m,true) ∈ l↔m=i) (a0:∀ c,o.op≠ .defer c) (b2:O.isLive=true) (b3:k.isLive=true)
  (b5:∀ (h:Hf) (D:Nat→Prop) (α:Nat→Nat×Nat) (a:Act) (w:World),(∀ m b,(m,b) ∈ l→m < H.length→h m=H[m]?)→Ok P B0 w0 D α h w→(∀ x ∈ o.op.operands,(aA T x).Rel P α (Own B0 D α h) w D (a.eval x))→
   ∃ (w':World),D i∧w'.heap.size=w.heap.size∧(∀ b,b≠(α i).1→w'.heap[b]? =w.heap[b]?)∧(∀ B,B≤(α i).1→Below B w w')∧((execOp a.eval o).run P w= .ok .skip w'∨(execOp a.eval o).run P w= .ok (.value undef) w')∧
    (∀ B',eJ D D α α (Own B0 D α h) B' w w'→cM P α B' w' D k (α i))∧(∀ α' B' w' D',v.Rel P α' B' w' D' undef)):
  me P B0 w0 ro T o H v (H.set i k) (.some rd l):=by
 have ab:i < H.length:=(List.getElem?_eq_some_iff.1 J).1
 refine ⟨by simp,fun m j b4=> ?_,fun h Z ro D α a w K Q U b6 a7 a5=> ?_⟩
 ·rw [List.getElem?_set_ne]
  rintro rfl
  exact b4 ((M i).2 rfl)
 ·obtain ⟨w',a4,a1,a2,a3,G,I,N⟩:=b5 h D α a w (fun m b j b1=>Z m ⟨b,j⟩ b1) U a7
  have e:cg h H (H.set i k) l=bd h i (some k):=by
   funext m
   unfold cg bd
   by_cases j:m=i
   ·subst j
    rw [if_pos (.inl ((M m).2 rfl)),if_pos rfl,List.getElem?_set_self ab]
   ·rw [if_neg,if_neg j]
    rintro (I | ⟨I,N⟩)
    ·exact j ((M m).1 I)
    ·simp at N;omega
  have bD:h i=some O:=(Z i ⟨true,(M i).2 rfl⟩ ab).trans J
  obtain ⟨a6,bx⟩:=C5 U a4 bD b2 b3 a1 a2 a3 (fun b0=>I _ b0)
  have S:=a5 D α w' undef (by rw [e];exact a6) (fun i J=> .inl J) (by rw [e];exact bx) (N _ _ _ _)
  rcases G with G | G
  ·exact aep a0 G S
  ·exact rS a0 G S
theorem fB (b off k:Nat):(⟨b,off,none⟩:Addr).add k= ⟨b,off+k,none⟩:=by
 unfold Addr.add
 split
 ·rename_i h;subst h;rfl
 ·rfl
theorem nk {w:World} {b:Nat} {cs:Array Value} {ty:TypeId} {fr:Nat×Nat} (h:w.heap[b]? =some (.cells cs ty fr)) (off:Nat):w.cell? ⟨b,off,none⟩=cs[off]? :=by
 simp [World.cell?,h]
theorem qC {t:TypeId} {d:TypeDesc} (h:P.underlying t=some d):∃ i,P.info? t=some i:=by
 unfold Program.underlying at h
 cases j:P.info? t with
 | none=>rw [j] at h;cases h
 | some i=>exact ⟨i,rfl⟩
theorem o9 {t:TypeId} {d:TypeDesc} (h:P.underlying t=some d) (w:World):(isAgg t).run P w= .ok (dG P t) w:=by
 unfold isAgg dG
 simp only [Sem.run_bind,run_underlying h,Result.andThen,h]
 cases d <;> rfl
theorem NK {t:TypeId} {w:World} {b off:Nat} {cs:Array Value} {ty:TypeId} {fr:Nat×Nat} (j:dG P t=true) (I:w.heap[b]? =some (.cells cs ty fr)) (l:List Value) (N:l.length=P.cellsOf t)
  (h:∀ k y,l[k]? =some y→cs[off+k]? =some y):(loadVar t ⟨b,off,none⟩).run P w= .ok (.agg l.toArray) w:=by
 have O:∃ d,P.underlying t=some d:=by
  unfold dG at j
  cases G:P.underlying t with
  | none=>rw [G] at j;cases j
  | some d=>exact ⟨d,rfl⟩
 obtain ⟨d,G⟩:=O
 obtain ⟨i,J⟩:=qC G
 unfold loadVar
 simp only [Sem.run_bind,o9 G,j,Result.andThen,if_true,run_sizeOf w J]
 rw [← N,run_loadCells_list w _ l (fun S v M=>by rw [fB,nk I];exact h S v M)]
 rfl
theorem NL {t:TypeId} {w:World} {b off:Nat} {cs:Array Value} {ty:TypeId} {fr:Nat×Nat} {d:TypeDesc} (I:P.underlying t=some d) (j:dG P t=false) (G:w.heap[b]? =some (.cells cs ty fr)) {y:Value}
  (h:cs[off]? =some y):(loadVar t ⟨b,off,none⟩).run P w= .ok y w:=by
 unfold loadVar
 simp only [Sem.run_bind,o9 I,j,Result.andThen,Bool.false_eq_true,if_false,run_load,nk G,h]
end
section
variable {R : Type}
theorem KK {c:aC} {o:Nat} {k:AV→Option R} {r:R} (h:c.get o k=some r):∃ v,c.a9[o]? =some v∧k v=some r:=by
 cases c with
 | cells l=>
  simp only [aC.get] at h
  cases G:l[o]? with
  | none=>rw [G] at h;cases h
  | some v=>rw [G] at h;exact ⟨v,G,h⟩
 | ints J zs=>
  simp only [aC.get] at h
  cases j:decide (o < zs.length) with
  | false=>rw [j] at h;cases h
  | true=>
   rw [j] at h
   have I:=of_decide_eq_true j
   refine ⟨_, ?_,h⟩
   simp [aC.a9,I]
 | vals vs=>
  simp only [aC.get] at h
  cases j:decide (o < vs.length) with
  | false=>rw [j] at h;cases h
  | true=>
   rw [j] at h
   have I:=of_decide_eq_true j
   refine ⟨_, ?_,h⟩
   simp [aC.a9,I]
theorem KL {c:aC} :∀ (n o:Nat) {k:List AV→Option R} {r:R},c.Cv n o k=some r→∃ vs,vs.length=n∧(∀ (j:Nat) (v:AV),vs[j]? =some v→c.a9[o+j]? =some v)∧k vs=some r
 | 0,o,k,r,h=> ⟨[],rfl,fun j v G=>by simp at G,h⟩
 | n+1,o,k,r,h=>by
  obtain ⟨v,I,J⟩:=KK h
  obtain ⟨vs,M,N,O⟩:=KL n (o+1) J
  refine ⟨v :: vs,by simp [M],fun j u G=> ?_,O⟩
  cases j with
  | zero=>simp only [List.getElem?_cons_zero,Option.some.injEq] at G;subst G;exact I
  | succ j=>rw [List.getElem?_cons_succ] at G;have:=N j u G;rwa [show o+(j+1)=o+1+j by omega]
end
section
variable {P : Program} {B0 : Nat → Prop} {w0 : World} {D : Nat → Prop} {α : Nat → Nat × Nat} {B : Nat → Prop} {h : Hf} {w : World}
theorem yG {v:AV} {y:Value} (I:v.Rel P α B w bh y):v.Rel P α B w D y:=AV.Rel.mono v y ⟨fun _ h=>h.elim,fun _ h=>h.elim,fun b cs ty fr j G=> ⟨G,j⟩⟩ I
theorem xZ {R:Nat→Value→Prop} :∀ (n:Nat),(∀ q,q < n→∃ y,R q y)→∃ l:List Value,l.length=n∧∀ (q:Nat) (y:Value),l[q]? =some y→R q y
 | 0,_=> ⟨[],rfl,fun q y j=>by simp at j⟩
 | n+1,h=>by
  obtain ⟨l,G,I⟩:=xZ n (fun q j=>h q (by omega))
  obtain ⟨y,M⟩:=h n (by omega)
  refine ⟨l ++ [y],by simp [G],fun q z j=> ?_⟩
  by_cases N:q < n
  ·rw [List.getElem?_append_left (by omega)] at j;exact I q z j
  ·rw [List.getElem?_append_right (by omega)] at j
   have J:q - l.length=0:=by
    rcases Nat.eq_zero_or_pos (q - l.length) with h | h
    ·exact h
    ·rw [List.getElem?_eq_none (by simp;omega)] at j;cases j
   rw [J] at j
   simp only [List.getElem?_cons_zero,Option.some.injEq] at j
   subst j
   have:q=n:=by omega
   rw [this];exact M
theorem rj {c:aC} {cs:Array Value} (I:ao P α B w c.a9 D (cs.toList.take c.len)) {o:Nat} {v:AV} (J:c.a9[o]? =some v):∃ y,cs[o]? =some y∧v.Rel P α B w D y:=by
 obtain ⟨y,j,G⟩:=ao.get I J
 rw [List.getElem?_take] at j
 split at j
 ·rw [Array.getElem?_toList] at j;exact ⟨y,j,G⟩
 ·cases j
theorem aaX {c:aC} {cs:Array Value} (ab:ao P α B w c.a9 D (cs.toList.take c.len)) {vs:List AV} {o:Nat} (j:∀ (O:Nat) (v:AV),vs[O]? =some v→c.a9[o+O]? =some v):
  ∃ l:List Value,l.length=vs.length∧(∀ (k:Nat) (y:Value),l[k]? =some y→cs[o+k]? =some y)∧ao P α B w vs D l:=by
 obtain ⟨l,G,I⟩:=xZ (R:=fun q y=>cs[o+q]? =some y∧∀ v,vs[q]? =some v→v.Rel P α B w D y) vs.length (fun q N=>by
  obtain ⟨y,S,U⟩:=rj ab (j q vs[q] (List.getElem?_eq_getElem N))
  exact ⟨y,S,fun v j=>by rw [List.getElem?_eq_getElem N] at j;cases j;exact U⟩)
 refine ⟨l,G,fun k y Z=>(I k y Z).1,ao.nG G (fun i v J=> ?_)⟩
 have M:i < l.length:=by rw [G];exact (List.getElem?_eq_some_iff.1 J).1
 exact ⟨l[i],List.getElem?_eq_getElem M,(I i l[i] (List.getElem?_eq_getElem M)).2 v J⟩
theorem kG (I:Ok P B0 w0 D α h w) {i:Nat} (M:D i) {c:aC} {ty:TypeId} {st:rV} (G:h i=some (.row c ty st)) (O:(st== .dead)=false):
  ∃ cs fr,w.heap[(α i).1]? =some (.cells cs ty fr)∧cs.size=(α i).2∧(st= .live→∀ j,j < (α i).2→¬ (fr.1≤j∧j < fr.2))∧c.len≤(α i).2∧ao P α (Own B0 D α h) w c.a9 D (cs.toList.take c.len):=by
 rcases I.cN i _ M G with J | N
 ·subst J;cases O
 ·exact N
theorem Lm {R:Type} {H:Hp} {t:TypeId} {p:AV} {k:AV→Option R} {r:R} (j:oO P H t p k=some r):
  ∃ v,k v=some r∧∀ {B0:Nat→Prop} {w0:World} {D:Nat→Prop} {α:Nat→Nat×Nat} {h:Hf} {w:World} {x:Value},(∀ m b,(m,b) ∈ tid false p→m < H.length→h m=H[m]?)→Ok P B0 w0 D α h w→p.Rel P α (Own B0 D α h) w D x→
   ∃ b off y,x= .pointer (some ⟨b,off,none⟩)∧(loadVar t ⟨b,off,none⟩).run P w= .ok y w∧v.Rel P α (Own B0 D α h) w D y:=by
 cases p with
 | ptr i off=>
  simp only [oO] at j
  split at j
  ·rename_i c ty st b0
   cases a3:(st==rV.dead) with
   | true=>rw [a3] at j;cases j
   | false=>
    rw [a3] at j
    simp only [cond] at j
    have a1:=(List.getElem?_eq_some_iff.1 b0).1
    cases I:dG P t with
    | true=>
     rw [I] at j
     simp only at j
     obtain ⟨vs,b7,bx,bD⟩:=KL _ _ j
     refine ⟨_,bD,fun {B0 w0 D α h w x} a0 ab G=> ?_⟩
     obtain ⟨J,G⟩:=G
     have a7:h i=some (.row c ty st):=(a0 i false (by simp [tid]) a1).trans b0
     obtain ⟨cs,fr,O,a5,U,Z,a6⟩:=kG ab J a7 a3
     obtain ⟨l,M,N,b6⟩:=aaX a6 bx
     exact ⟨_,_,_,G,NK I O l (M.trans b7) N,l.toArray,rfl,by simpa using b6⟩
    | false=>
     rw [I] at j
     simp only at j
     cases a2:(P.underlying t).isSome with
     | false=>rw [a2] at j;cases j
     | true=>
      rw [a2] at j
      simp only at j
      obtain ⟨d,b1⟩:=Option.isSome_iff_exists.1 a2
      obtain ⟨v,bx,bD⟩:=KK j
      refine ⟨_,bD,fun {B0 w0 D α h w x} a0 ab G=> ?_⟩
      obtain ⟨J,G⟩:=G
      have a7:h i=some (.row c ty st):=(a0 i false (by simp [tid]) a1).trans b0
      obtain ⟨cs,fr,O,a5,U,Z,a6⟩:=kG ab J a7 a3
      obtain ⟨y,M,N⟩:=rj a6 bx
      exact ⟨_,_,y,G,NL b1 I O M,N⟩
  ·cases j
 | eptr ct n f a4 off=>
  simp only [oO] at j
  cases I:dG P t with
  | true=>
   rw [I] at j
   simp only [cond] at j
   split at j
   ·rename_i S
    have S:=of_decide_eq_true S
    refine ⟨_,j,fun {B0 w0 D α h w x} a0 ab G=> ?_⟩
    obtain ⟨b2,b,o,cs,ty,fr,O,a5,U,Z⟩:=G
    obtain ⟨l,M,N⟩:=xZ (R:=fun q y=>cs[o+a4*P.cellsOf ct+(off+q)]? =some y∧(f a4 (off+q)).Rel P α (Own B0 D α h) w bh y) (P.cellsOf t) (fun q b4=>Z a4 (off+q) b2 (by omega))
    refine ⟨_,_,_,O,NK I U l M (fun k y b8=>by rw [Nat.add_assoc];exact (N k y b8).1),l.toArray,rfl, ?_⟩
    refine ao.nG (by simp [M]) (fun i v J=> ?_)
    rw [List.getElem?_map] at J
    cases b3:(List.range (P.cellsOf t))[i]? with
    | none=>rw [b3] at J;cases J
    | some q=>
     rw [b3] at J
     cases J
     have b4:=List.getElem?_eq_some_iff.1 b3
     obtain ⟨ch,b5⟩:=b4
     rw [List.length_range] at ch
     rw [List.getElem_range] at b5
     subst b5
     have a1:i < l.length:=by omega
     exact ⟨l[i],by simp [a1],yG (N i l[i] (List.getElem?_eq_getElem a1)).2⟩
   ·cases j
  | false=>
   rw [I] at j
   simp only [cond] at j
   split at j
   ·rename_i a2
    obtain ⟨d,b1⟩:=Option.isSome_iff_exists.1 a2
    split at j
    ·rename_i S
     have S:=of_decide_eq_true S
     refine ⟨_,j,fun {B0 w0 D α h w x} a0 ab G=> ?_⟩
     obtain ⟨b2,b,o,cs,ty,fr,O,a5,U,Z⟩:=G
     obtain ⟨y,M,N⟩:=Z a4 off b2 S
     exact ⟨_,_,y,O,NL b1 I U M,yG N⟩
    ·cases j
   ·cases j
 | _=>simp [oO] at j
end
end Go.V
namespace Go.V
open Go Go.RowKit
def bf {R:Type} (P:Program) (ro:Option Nat) (T:List AV) (o:Oper) (H:Hp) (G:Tch) (lo:Nat) (k:Kn R) (r:R):Prop:=
 ∃ v j,k v j=some r∧(lo≤H.length→∀ m,m < lo→j[m]? =H[m]?)∧∀ B0 w0,me P B0 w0 ro T o H v j G
section
variable {R : Type} {P : Program} {ro : Option Nat} {T : List AV} {o : Oper} {H : Hp} {lo : Nat} {k : Kn R} {r : R}
theorem dB {v:AV} {l:List (Nat×Bool)} {rd:Bool} (j:k v H=some r) (J:∀ m,(m,true) ∉ l) (G:∀ c,o.op≠ .defer c)
  (I:∀ (B0:Nat→Prop) (w0:World) (h:Hf) (D:Nat→Prop) (α:Nat→Nat×Nat) (a:Act) (w:World),(∀ m b,(m,b) ∈ l→m < H.length→h m=H[m]?)→Ok P B0 w0 D α h w→(∀ x ∈ o.op.operands,(aA T x).Rel P α (Own B0 D α h) w D (a.eval x))→∃ x,(execOp a.eval o).run P w= .ok (.value x) w∧v.Rel P α (Own B0 D α h) w D x):
  bf P ro T o H (.some rd l) lo k r:= ⟨v,H,j,fun _ _ _=>rfl,fun B0 w0=>KT (fun m h=>absurd h (J m)) G (I B0 w0)⟩
theorem Ow {x:Operand} (j:o.op= .move x∨o.op= .assign x) (I:k (aA T x) H=some r):bf P ro T o H (.some false []) lo k r:=by
 refine dB I (fun m h=>by simp at h) (fun c h=>by rcases j with j | j <;> rw [j] at h <;> cases h) (fun B0 w0 h D α a w _ M G=> ?_)
 have J:=G x (by rcases j with j | j <;> rw [j] <;> simp [Op.operands])
 exact ⟨a.eval x,by unfold execOp;rcases j with j | j <;> rw [j] <;> rfl,J⟩
theorem acu {c x y:Operand} (j:o.op= .pick c x y) (h:EZ T c x y H k=some r):bf P ro T o H (.some false []) lo k r:=by
 unfold EZ at h
 split at h
 ·rename_i b O
  have M:∀ z,z=(bif b then x else y)→k (aA T z) H=some r→bf P ro T o H (.some false []) lo k r:=by
   intro z I S
   refine dB S (fun m h=>by simp at h) (fun c h=>by rw [j] at h;cases h) (fun B0 w0 h D α a w _ ab G=> ?_)
   have J:=G c (by rw [j];simp [Op.operands])
   have U:=G x (by rw [j];simp [Op.operands])
   have Z:=G y (by rw [j];simp [Op.operands])
   rw [O] at J
   have N:a.eval c= .bool b:=J
   refine ⟨a.eval z, ?_, ?_⟩
   ·unfold execOp
    rw [j]
    simp only [N,asBool,Sem.run_bind,Sem.run_pure,Result.andThen]
    cases b <;> simp [I]
   ·cases b <;> simp only [cond] at I <;> rw [I] <;> assumption
  cases b
  ·exact M y rfl h
  ·exact M x rfl h
 ·cases h
theorem acp {t:TypeId} {x:Operand} (j:o.op= .load t x) (h:oO P H t (aA T x) (fun v=>k v H)=some r):bf P ro T o H (.some false (tid false (aA T x))) lo k r:=by
 obtain ⟨v,G,I⟩:=Lm h
 refine dB G (fy _) (fun c h=>by rw [j] at h;cases h) (fun B0 w0 ab D α a w U N O=> ?_)
 have Z:=O x (by rw [j];simp [Op.operands])
 obtain ⟨b,off,y,S,J,M⟩:=I U N Z
 refine ⟨y, ?_,M⟩
 unfold execOp
 rw [j]
 simp only [S,Instr.loadAt,Instr.sureAddr,Sem.run_bind,Sem.run_pure,Result.andThen,J]
theorem Ev (b off:Nat) (ty:TypeId) (fr:Nat×Nat):∀ (vs:List Value) (i:Nat) (w:World) (cs:Array Value),w.heap[b]? =some (.cells cs ty fr)→off+i+vs.length≤cs.size→(∀ N,N < cs.size→¬ (fr.1≤N∧N < fr.2))→(∀ v ∈ vs,v.oneCell'=true)→
  ∃ w' G,(storeCells ⟨b,off,none⟩ vs i).run P w= .ok () w'∧w'.heap[b]? =some (.cells G ty fr)∧G.toList=cs.toList.take (off+i) ++ vs ++ cs.toList.drop (off+i+vs.length)∧(∀ k,k≠b→w'.heap[k]? =w.heap[k]?)∧(∀ B,B≤b→Below B w w')∧w'.heap.size=w.heap.size
 | [],i,w,cs,j,U,I,M=> ⟨w,cs,rfl,j,by simp,fun _ _=>rfl,fun B _=>Below.refl B w,rfl⟩
 | v :: vs,i,w,cs,j,U,I,M=>by
  have a0:=M v List.mem_cons_self
  rw [List.length_cons] at U
  have J:off+i < cs.size:=by omega
  have a2:w.cell? ⟨b,off+i,none⟩=some cs[off+i]:=by rw [nk j,Array.getElem?_eq_getElem J]
  have a3:w.frozen? ⟨b,off+i,none⟩=false:=by
   have:=I (off+i) J
   simp only [World.frozen?,j]
   cases h:(decide (fr.1≤off+i)&&decide (off+i < fr.2)) with
   | false=>rfl
   | true=>rw [Bool.and_eq_true,decide_eq_true_eq,decide_eq_true_eq] at h;exact absurd h this
  have a1:(w.setCell ⟨b,off+i,none⟩ v).heap[b]? =some (.cells (cs.setIfInBounds (off+i) v) ty fr):=by
   simp only [World.setCell,Array.getElem?_modify,if_true,j,Option.map_some]
   rfl
  obtain ⟨w',G,k1,a5,a6,a7,bx,bD⟩:=Ev b off ty fr vs (i+1) (w.setCell ⟨b,off+i,none⟩ v) (cs.setIfInBounds (off+i) v) a1 (by rw [Array.size_setIfInBounds];omega) (by rw [Array.size_setIfInBounds];exact I) (fun u a4=>M u (List.mem_cons_of_mem _ a4))
  refine ⟨w',G, ?_,a5, ?_, ?_, ?_, ?_⟩
  ·rw [storeCells]
   simp only [Sem.run_bind,fB,run_store P w _ v .plain a0,a2,a3,Bool.false_eq_true,if_false,Result.andThen]
   exact k1
  ·rw [a6,Array.toList_setIfInBounds]
   have Z:(cs.toList.set (off+i) v).take (off+(i+1))=cs.toList.take (off+i) ++ [v]:=by
    rw [← Nat.add_assoc,List.take_add_one,List.take_set_of_le (Nat.le_refl _),List.getElem?_set_self (by simpa using J)]
    rfl
   have ab:(cs.toList.set (off+i) v).drop (off+(i+1)+vs.length)=cs.toList.drop (off+i+(v :: vs).length):=by
    rw [List.drop_set_of_lt (by omega),List.length_cons]
    congr 1
    omega
   rw [Z,ab,List.append_assoc (cs.toList.take (off+i)) [v] vs]
   rfl
  ·intro k S
   rw [a7 k S,Below.heap_setCell _ _ _ _ S]
  ·intro B O
   exact (Below.setCell (Below.refl B w) O v).trans (bx B O)
  ·rw [bD,World.size_setCell]
theorem Y8 {D:Nat→Prop} {α:Nat→Nat×Nat} {B:Nat→Prop} {w:World} {v:AV} {x:Value} (h:eP v=true) (k:v.Rel P α B w D x):x.oneCell'=true:=by
 cases v with
 | val v=>rw [show x=v from k];exact h
 | ptr i off=>obtain ⟨_,rfl⟩:=k;rfl
 | sl fl t i off n=>obtain ⟨_,cap,o,rfl,_⟩:=k;rfl
 | lst fl t n f=>obtain ⟨A,cap,rfl,_⟩:=k;rfl
 | eptr t n f G off=>obtain ⟨_,b,o,cs,ty,fr,rfl,_⟩:=k;rfl
 | clo j a b=>obtain ⟨I,J,rfl,_⟩:=k;rfl
 | yld i=>obtain ⟨_,rfl⟩:=k;rfl
 | _=>cases h
theorem ao.one {D:Nat→Prop} {α:Nat→Nat×Nat} {B:Nat→Prop} {w:World} :∀ {vs:List AV} {G:List Value},vs.all eP=true→ao P α B w vs D G→∀ y ∈ G,y.oneCell'=true
 | [],G,h,k,y,j=>by rw [show G= [] from k] at j;cases j
 | v :: vs,G,h,k,y,j=>by
  obtain ⟨z,zs,rfl,I,J⟩:=k
  rw [List.all_cons,Bool.and_eq_true] at h
  rcases List.mem_cons.1 j with rfl | j
  ·exact Y8 h.1 I
  ·exact ao.one h.2 J y j
theorem Ey {α:Type} (l:List α) (o:Nat) (v:α) (h:o+1≤l.length):l.set o v=l.take o ++ [v] ++ l.drop (o+1):=by
 rw [List.set_eq_take_append_cons_drop,if_pos (by omega),List.append_assoc];rfl
theorem ZC {I:Type} {c:aC} {o:Nat} {l:List AV} {k:aC→Option I} {r:I} (h:c.put o l k=some r):∃ c',k c'=some r∧c'.len=c.len∧o+l.length≤c.len∧c'.a9=c.a9.take o ++ l ++ c.a9.drop (o+l.length)∧l.all eP=true:=by
 unfold aC.put at h
 cases J:l.all eP with
 | false=>rw [J] at h;cases h
 | true=>
  rw [J] at h
  simp only [cond] at h
  split at h
  ·rename_i cJ
   split at h
   ·rename_i j
    have j:=of_decide_eq_true j
    split at h
    ·rename_i v
     refine ⟨_,h,by simp [aC.len],j, ?_,rfl⟩
     simp only [aC.a9]
     exact Ey _ _ _ j
    ·refine ⟨_,h, ?_,j,rfl,rfl⟩
     simp only [aC.len,List.length_append,List.length_take,List.length_drop]
     omega
   ·cases h
  ·rename_i M zs
   split at h
   ·rename_i N z
    split at h
    ·rename_i G
     have G:=of_decide_eq_true G
     subst G
     split at h
     ·rename_i j
      have j:=of_decide_eq_true j
      refine ⟨_,h,by simp [aC.len],j, ?_,rfl⟩
      simp only [aC.a9,List.map_set]
      exact Ey _ _ _ (by rw [List.length_map];exact j)
     ·cases h
    ·cases h
   ·cases h
  ·rename_i vs
   split at h
   ·rename_i v
    split at h
    ·rename_i j
     have j:=of_decide_eq_true j
     refine ⟨_,h,by simp [aC.len],j, ?_,rfl⟩
     simp only [aC.a9,List.map_set]
     exact Ey _ _ _ (by rw [List.length_map];exact j)
    ·cases h
   ·cases h
theorem By {D:Nat→Prop} {α:Nat→Nat×Nat} {B:Nat→Prop} {w:World} {v:AV} {x:Value} {l:List AV} (h:wP v=some l) (j:v.Rel P α B w D x):ao P α B w l D x.cells.toList:=by
 cases v with
 | val v=>cases h;rw [show x=v from j];exact ao.vals _
 | ptr i off=>cases h;obtain ⟨I,rfl⟩:=j;exact ⟨_, [],rfl, ⟨I,rfl⟩,rfl⟩
 | sl fl t i off n=>
  cases h
  have G:x.cells= #[x]:=by obtain ⟨_,cap,o,rfl,_⟩:=j;rfl
  rw [G];exact ⟨x, [],rfl,j,rfl⟩
 | lst fl t n f=>
  cases h
  have G:x.cells= #[x]:=by obtain ⟨A,cap,rfl,_⟩:=j;rfl
  rw [G];exact ⟨x, [],rfl,j,rfl⟩
 | eptr t n f O off=>
  cases h
  have G:x.cells= #[x]:=by obtain ⟨_,b,o,cs,ty,fr,rfl,_⟩:=j;rfl
  rw [G];exact ⟨x, [],rfl,j,rfl⟩
 | clo N a b=>
  cases h
  have G:x.cells= #[x]:=by obtain ⟨S,M,rfl,_⟩:=j;rfl
  rw [G];exact ⟨x, [],rfl,j,rfl⟩
 | yld i=>cases h;obtain ⟨I,rfl⟩:=j;exact ⟨_, [],rfl, ⟨I,rfl⟩,rfl⟩
 | agg cs=>cases h;obtain ⟨M,rfl,J⟩:=j;exact J
 | _=>cases h
theorem ac3 {J:Type} (X Y:List J) {off n m:Nat} (I:Y.length=n) (h:off+n≤m) (M:m≤X.length):(X.take off ++ Y ++ X.drop (off+n)).take m=(X.take m).take off ++ Y ++ (X.take m).drop (off+n):=by
 have j:(X.take m).take off=X.take off:=by rw [List.take_take,Nat.min_eq_left (by omega)]
 have G:(X.take m).drop (off+n)=(X.drop (off+n)).take (m - (off+n)):=List.drop_take
 have l1:(X.take off ++ Y).length=off+n:=by rw [List.length_append,List.length_take,Nat.min_eq_left (by omega),I]
 rw [j,G,List.take_append,l1,List.take_of_length_le (by omega)]
theorem acz {t:TypeId} {x y:Operand} (G:o.op= .store t x y) (h:Fg P lo H t (aA T x) (aA T y) (fun a6=>k (.val undef) a6)=some r):bf P ro T o H (.some false (tid true (aA T x))) lo k r:=by
 unfold Fg at h
 split at h
 ·rename_i i off J
  cases j:decide (i < lo) with
  | true=>rw [j] at h;cases h
  | false=>
   rw [j] at h
   simp only [cond] at h
   have j:=of_decide_eq_false j
   split at h
   ·rename_i c ty l I b8
    split at h
    ·rename_i a0
     rw [Bool.and_eq_true,beq_iff_eq] at a0
     obtain ⟨ed,b6⟩:=a0
     obtain ⟨ti,c6⟩:=Option.isSome_iff_exists.1 b6
     obtain ⟨c',k1,c8,dx,dy,eb⟩:=ZC h
     have c3:=(List.getElem?_eq_some_iff.1 I).1
     refine ⟨_,_,k1,fun _ m eh=>List.getElem?_set_ne (by omega),fun B0 w0=>W2 I (fun m=>by rw [J];simp [tid]) (fun c h=>by rw [G] at h;cases h) rfl rfl (fun ct D α a w c0 b7 ab=> ?_)⟩
     have a4:=ab x (by rw [G];simp [Op.operands])
     have c7:=ab y (by rw [G];simp [Op.operands])
     rw [J] at a4
     obtain ⟨a1,ch⟩:=a4
     have b5:ct i=some (.row c ty .live):=(c0 i true (by rw [J];simp [tid]) c3).trans I
     obtain ⟨cs,fr,a7,bx,O,ec,S⟩:=kG b7 a1 b5 rfl
     have M:=By b8 c7
     have a3:=ao.len M
     rw [Array.length_toList] at a3
     have c2:=ao.len S
     rw [List.length_take,Array.length_toList,aC.eK] at c2
     obtain ⟨w',N,b0,b1,Z,b2,b3,b4⟩:=Ev (P:=P) (α i).1 off ty fr (a.eval y).cells.toList 0 w cs a7 (by rw [Array.length_toList];omega) (by rw [bx];exact O rfl) (ao.one eb M)
     have c4:(execOp a.eval o).run P w= .ok .skip w':=by
      have c5:¬ (a.eval y).cells.size≠P.cellsOf t:=by omega
      unfold execOp
      rw [G]
      simp only [ch,Instr.storeAt,Instr.sureAddr,storeVar,Sem.run_bind,Sem.run_pure,Result.andThen,run_sizeOf w c6,c5,if_false,b0]
     have en:N.size=cs.size:=by
      have:=congrArg List.length Z
      simp only [Array.length_toList,List.length_append,List.length_take,List.length_drop] at this
      omega
     refine ⟨w',a1,b4,b2,b3, .inl c4,fun B' a2=> .inr ⟨N,fr,b1,by omega,O,by omega, ?_⟩,fun _ _ _ _=>rfl⟩
     have U:=ao.mono _ _ a2 S
     have c1:=ao.mono _ _ a2 M
     rw [dy,Z,Nat.add_zero]
     have a5:(a.eval y).cells.toList.length=l.length:=by rw [Array.length_toList];exact a3
     have bD:(List.take off cs.toList ++ (a.eval y).cells.toList ++ List.drop (off+(a.eval y).cells.toList.length) cs.toList).take c'.len=(cs.toList.take c.len).take off ++ (a.eval y).cells.toList ++ (cs.toList.take c.len).drop (off+l.length):=by
      rw [c8,a5]
      exact ac3 _ _ a5 dx (by rw [Array.length_toList];omega)
     rw [bD]
     exact ao.append (ao.append (ao.take U _) c1) (ao.drop U _)
    ·cases h
   ·cases h
 ·cases h
end
end Go.V
namespace Go.V
open Go Go.RowKit
section
variable {R : Type} {P : Program} {ro : Option Nat} {T : List AV} {o : Oper} {H : Hp} {lo : Nat} {k : Kn R} {r : R}
theorem eR {v:AV} (G:k v H=some r) (I:∀ c,o.op≠ .defer c)
  (J:∀ (D:Nat→Prop) (α:Nat→Nat×Nat) (B:Nat→Prop) (a:Act) (w:World),(∀ x ∈ o.op.operands,(aA T x).Rel P α B w D (a.eval x))→∃ x,(execOp a.eval o).run P w= .ok (.value x) w∧v.Rel P α B w D x):
  bf P ro T o H (.some false []) lo k r:=dB G (fun m h=>by simp at h) I (fun B0 w0 h D α a w _ _ j=>J D α _ a w j)
theorem vo {t:TypeId} {e:TypeId} (h:mU P t=some e):P.underlying t=some (.slice e):=by
 unfold mU at h
 split at h
 ·rename_i G j;cases h;exact j
 ·cases h
theorem CJ {t:TypeId} {j:IntKind} (h:intKind P t=some j):P.underlying t=some (.int j):=by
 unfold intKind at h
 split at h
 ·rename_i I G;cases h;exact G
 ·cases h
theorem aci {s f:Nat} {x:Operand} (O:o.op= .fieldAddr s x f) (h:EV P s f (aA T x) H k=some r):bf P ro T o H (.some false []) lo k r:=by
 unfold EV at h
 split at h
 ·rename_i v j
  refine eR h (fun c h=>by rw [O] at h;cases h) (fun D α B a w a0=> ?_)
  have I:=a0 x (by rw [O];simp [Op.operands])
  unfold Kx at j
  split at j
  ·rename_i a5 a3
   split at j
   ·rename_i fd a2
    cases S:(P.cellsOf fd.type==0) with
    | true=>rw [S] at j;cases j
    | false=>
     rw [S] at j
     simp only [cond] at j
     have Z:¬ P.cellsOf fd.type=0:=by simpa using S
     have G:∃ i,P.info? fd.type=some i:=by
      cases G:P.info? fd.type with
      | none=>exact absurd (by simp [Program.cellsOf,G]) Z
      | some i=>exact ⟨i,rfl⟩
     obtain ⟨i,G⟩:=G
     have U:∀ b off,a.eval x= .pointer (some ⟨b,off,none⟩)→(execOp a.eval o).run P w= .ok (.value (.pointer (some ⟨b,off+fd.offset,none⟩))) w:=by
      intro b off a1
      unfold execOp
      rw [O]
      simp only [a1,Instr.fieldAt,Sem.run_bind,run_underlying a3,Result.andThen,a2,Instr.sureAddr,Sem.run_pure,Go.fieldPlace,run_sizeOf w G,Z,if_false,fB]
     split at j
     ·rename_i i off N
      cases j
      rw [N] at I
      obtain ⟨J,M⟩:=I
      exact ⟨_,U _ _ M,J,rfl⟩
     ·rename_i a7 n g a6 off N
      cases j
      rw [N] at I
      obtain ⟨ab,b,a4,cs,ty,fr,J,M⟩:=I
      exact ⟨_,U _ _ J,ab,b,a4,cs,ty,fr,by rw [Nat.add_assoc],M⟩
     ·cases j
   ·cases j
  ·cases j
 ·cases h
theorem L8 {t:TypeId} {cs:List AV} {off:Nat} {O:AV→Option R} (h:tP P t cs off O=some r):∃ v,O v=some r∧∀ {D:Nat→Prop} {α:Nat→Nat×Nat} {B:Nat→Prop} {w:World} {G:Array Value},ao P α B w cs D G.toList→∃ y,(part t G off).run P w= .ok y w∧v.Rel P α B w D y:=by
 unfold tP at h
 simp only [Bool.cond_eq_ite] at h
 cases j:dG P t with
 | true=>
  rw [j,if_pos rfl] at h
  refine ⟨_,h,fun {D α B w G} J=> ?_⟩
  have M:∃ d,P.underlying t=some d:=by
   unfold dG at j
   cases I:P.underlying t with
   | none=>rw [I] at j;cases j
   | some d=>exact ⟨d,rfl⟩
  obtain ⟨d,I⟩:=M
  obtain ⟨i,U⟩:=qC I
  refine ⟨.agg (G.extract off (off+P.cellsOf t)), ?_,_,rfl, ?_⟩
  ·unfold part
   simp only [Sem.run_bind,o9 I,j,Result.andThen,if_true,run_sizeOf w U,Sem.run_pure]
  ·have:(G.extract off (off+P.cellsOf t)).toList=(G.toList.drop off).take (P.cellsOf t):=by
    rw [Array.toList_extract,List.extract_eq_take_drop,Nat.add_sub_cancel_left]
   rw [this]
   exact ao.take (ao.drop J _) _
 | false=>
  rw [j,if_neg (by decide)] at h
  split at h
  ·rename_i M
   obtain ⟨d,I⟩:=Option.isSome_iff_exists.1 M
   split at h
   ·rename_i v Z
    refine ⟨_,h,fun {D α B w G} J=> ?_⟩
    obtain ⟨y,N,S⟩:=ao.get J Z
    rw [Array.getElem?_toList] at N
    refine ⟨y, ?_,S⟩
    unfold part
    simp only [Sem.run_bind,o9 I,j,Result.andThen,Bool.false_eq_true,if_false,N,Sem.run_pure]
   ·cases h
  ·cases h
theorem acj {s f:Nat} {x:Operand} (j:o.op= .field s x f) (h:Cj P s f (aA T x) (fun v=>k v H)=some r):bf P ro T o H (.some false []) lo k r:=by
 unfold Cj at h
 split at h
 ·rename_i a1 cs a0 U
  split at h
  ·rename_i fd Z
   obtain ⟨v,I,J⟩:=L8 h
   refine eR I (fun c h=>by rw [j] at h;cases h) (fun D α B a w O=> ?_)
   have G:=O x (by rw [j];simp [Op.operands])
   rw [U] at G
   obtain ⟨a2,S,ab⟩:=G
   obtain ⟨y,M,N⟩:=J ab
   refine ⟨y, ?_,N⟩
   unfold execOp
   rw [j]
   simp only [S,Instr.field,asAgg,Sem.run_bind,run_underlying a0,Result.andThen,Z,Sem.run_pure,M]
  ·cases h
 ·cases h
theorem acn {t:TypeId} {x N:Operand} (j:o.op= .indexAddr t x N) (h:CE P t (aA T x) (aA T N) (fun v=>k v H)=some r):bf P ro T o H (.some false []) lo k r:=by
 unfold CE at h
 simp only [Bool.cond_eq_ite] at h
 have a6:∀ c,o.op≠ .defer c:=fun c h=>by rw [j] at h;cases h
 split at h
 ·rename_i e fl bx n f a2 z a0 Z U
  split at h
  ·rename_i a4
   rw [Bool.and_eq_true,beq_iff_eq] at a4
   obtain ⟨rfl,ab⟩:=a4
   split at h
   ·rename_i M
    rw [Bool.and_eq_true,decide_eq_true_eq,decide_eq_true_eq] at M
    refine eR h a6 (fun D α B a w J=> ?_)
    have G:=J x (by rw [j];simp [Op.operands])
    have I:=J N (by rw [j];simp [Op.operands])
    rw [Z] at G
    rw [U] at I
    have O:a.eval N= .int a2 z:=I
    obtain ⟨ti,a1⟩:=Option.isSome_iff_exists.1 ab
    obtain ⟨A,cap,S,b3,_,a5⟩:=G
    rcases a5 with a5 | ⟨b,a3,cs,ty,fr,rfl,b0,b1,b2⟩
    ·omega
    refine ⟨.pointer (some ⟨b,a3+z.toNat*P.cellsOf e,none⟩), ?_,by omega,b,a3,cs,ty,fr,by rw [Nat.add_zero],b0,b1,b2⟩
    unfold execOp
    rw [j]
    simp only [S,O,Instr.indexAt,asIntOf,Sem.run_bind,Sem.run_pure,Result.andThen,run_underlying a0,M,and_self,if_true,run_sizeOf w a1,fB]
   ·cases h
  ·cases h
 ·rename_i e fl bx i off n a2 z a0 Z U
  split at h
  ·rename_i a4
   rw [Bool.and_eq_true,beq_iff_eq] at a4
   obtain ⟨rfl,ab⟩:=a4
   split at h
   ·rename_i M
    rw [Bool.and_eq_true,decide_eq_true_eq,decide_eq_true_eq] at M
    refine eR h a6 (fun D α B a w J=> ?_)
    have G:=J x (by rw [j];simp [Op.operands])
    have I:=J N (by rw [j];simp [Op.operands])
    rw [Z] at G
    rw [U] at I
    have O:a.eval N= .int a2 z:=I
    obtain ⟨ti,a1⟩:=Option.isSome_iff_exists.1 ab
    obtain ⟨a7,cap,a3,S,b3,_,a5⟩:=G
    rcases a5 with a5 | ⟨rfl,_⟩
    ·omega
    refine ⟨.pointer (some ⟨(α i).1,a3+z.toNat*P.cellsOf e,none⟩), ?_,a7,rfl⟩
    unfold execOp
    rw [j]
    simp only [S,O,Instr.indexAt,asIntOf,Sem.run_bind,Sem.run_pure,Result.andThen,run_underlying a0,M,and_self,if_true,run_sizeOf w a1,fB]
   ·cases h
  ·cases h
 ·rename_i n e i off a2 z a0 Z U
  split at h
  ·rename_i ab
   split at h
   ·rename_i M
    rw [Bool.and_eq_true,decide_eq_true_eq,decide_eq_true_eq] at M
    refine eR h a6 (fun D α B a w J=> ?_)
    have G:=J x (by rw [j];simp [Op.operands])
    have I:=J N (by rw [j];simp [Op.operands])
    rw [Z] at G
    rw [U] at I
    have O:a.eval N= .int a2 z:=I
    obtain ⟨ti,a1⟩:=Option.isSome_iff_exists.1 ab
    obtain ⟨a7,S⟩:=G
    refine ⟨.pointer (some ⟨(α i).1,off+z.toNat*P.cellsOf e,none⟩), ?_,a7,rfl⟩
    unfold execOp
    rw [j]
    simp only [S,O,Instr.indexAt,Instr.sureAddr,asIntOf,Sem.run_bind,Sem.run_pure,Result.andThen,run_underlying a0,M,and_self,if_true,run_sizeOf w a1,fB]
   ·cases h
  ·cases h
 ·rename_i n e bx m f b5 off a2 z a0 Z U
  split at h
  ·rename_i ab
   split at h
   ·rename_i M
    rw [Bool.and_eq_true,decide_eq_true_eq,decide_eq_true_eq] at M
    refine eR h a6 (fun D α B a w J=> ?_)
    have G:=J x (by rw [j];simp [Op.operands])
    have I:=J N (by rw [j];simp [Op.operands])
    rw [Z] at G
    rw [U] at I
    have O:a.eval N= .int a2 z:=I
    obtain ⟨ti,a1⟩:=Option.isSome_iff_exists.1 ab
    obtain ⟨bD,b,a3,cs,ty,fr,S,b4⟩:=G
    refine ⟨.pointer (some ⟨b,a3+b5*P.cellsOf bx+off+z.toNat*P.cellsOf e,none⟩), ?_,bD,b,a3,cs,ty,fr,by rw [Nat.add_assoc],b4⟩
    unfold execOp
    rw [j]
    simp only [S,O,Instr.indexAt,Instr.sureAddr,asIntOf,Sem.run_bind,Sem.run_pure,Result.andThen,run_underlying a0,M,and_self,if_true,run_sizeOf w a1,fB]
   ·cases h
  ·cases h
 ·cases h
theorem Uz {G:IntKind} {v:AV} {z:Int} (h:BL G v=some z):v= .val (.int G z):=by
 unfold BL at h
 simp only [Bool.cond_eq_ite] at h
 split at h
 ·rename_i I J
  split at h
  ·rename_i j;have j:=of_decide_eq_true j;subst j;cases h;rfl
  ·cases h
 ·cases h
theorem qk {j:IntKind} :∀ {l:List AV} {zs:List Int},mm j l=some zs→l=zs.map fun z=> .val (.int j z)
 | [],zs,h=>by cases h;rfl
 | v :: l,zs,h=>by
  simp only [mm] at h
  split at h
  ·rename_i z G
   split at h
   ·rename_i J I
    cases h
    rw [List.map_cons,← qk I,Uz G]
   ·cases h
  ·cases h
theorem R9 (s:ByteArray) (i:Nat) (h:i < s.size):∃ b,s[i]? =some b∧(b.toNat:Int)=aR s i:=by
 have j:i < s.data.toList.length:=by rw [Array.length_toList];exact h
 refine ⟨s[i],Go.ByteArray.getElem?_lt' s i h, ?_⟩
 unfold aR
 rw [List.getD_eq_getElem?_getD,List.getElem?_eq_getElem j]
 rfl
theorem acm {t:TypeId} {x J:Operand} (I:o.op= .index t x J) (h:CD P t (aA T x) (aA T J) (fun v=>k v H)=some r):bf P ro T o H (.some false []) lo k r:=by
 unfold CD at h
 simp only [Bool.cond_eq_ite] at h
 have b0:∀ c,o.op≠ .defer c:=fun c h=>by rw [I] at h;cases h
 split at h
 ·rename_i s a7 z a6 a4 a3
  split at h
  ·rename_i N
   rw [Bool.and_eq_true,decide_eq_true_eq,decide_eq_true_eq] at N
   refine eR h b0 (fun D α B a w M=> ?_)
   have j:=M x (by rw [I];simp [Op.operands])
   have G:=M J (by rw [I];simp [Op.operands])
   rw [a4] at j
   rw [a3] at G
   have a1:a.eval J= .int a7 z:=G
   have b1:a.eval x= .string s:=j
   obtain ⟨b,b2,b3⟩:=R9 s z.toNat (by omega)
   refine ⟨.int .u8 (aR s z.toNat), ?_,rfl⟩
   unfold execOp
   rw [I]
   simp only [b1,a1,Instr.index,asIntOf,Sem.run_bind,Sem.run_pure,Result.andThen,run_underlying a6,N.1,if_true,b2,b3]
  ·cases h
 ·rename_i n e cs a7 z a6 a4 a3
  split at h
  ·rename_i N
   rw [Bool.and_eq_true,decide_eq_true_eq,decide_eq_true_eq] at N
   have go:∀ {v:AV},k v H=some r→(∀ {D:Nat→Prop} {α:Nat→Nat×Nat} {B:Nat→Prop} {w:World} {a0:Array Value},ao P α B w cs D a0.toList→∃ y,(part e a0 (z.toNat*P.cellsOf e)).run P w= .ok y w∧v.Rel P α B w D y)→(∃ ti,P.info? e=some ti)→bf P ro T o H (.some false []) lo k r:=by
    intro v b6 ct O
    refine eR b6 b0 (fun D α B a w M=> ?_)
    have j:=M x (by rw [I];simp [Op.operands])
    have G:=M J (by rw [I];simp [Op.operands])
    rw [a4] at j
    rw [a3] at G
    have a1:a.eval J= .int a7 z:=G
    obtain ⟨a0,b4,a5⟩:=j
    obtain ⟨y,U,a2⟩:=ct a5
    obtain ⟨ti,O⟩:=O
    refine ⟨y, ?_,a2⟩
    unfold execOp
    rw [I]
    simp only [b4,a1,Instr.index,asIntOf,Sem.run_bind,Sem.run_pure,Result.andThen,run_underlying a6,N,and_self,if_true,run_sizeOf w O,U]
   split at h
   ·rename_i c1 b7
    split at h
    ·rename_i zs c0
     split at h
     ·rename_i bx
      rw [Bool.and_eq_true,beq_iff_eq,beq_iff_eq] at bx
      have S:=CJ b7
      obtain ⟨ti,O⟩:=qC S
      refine go h (fun {D α B w a0} a5=> ?_) ⟨ti,O⟩
      have b8:=qk c0
      have bD:z.toNat < zs.length:=by omega
      have b5:cs[z.toNat]? =some (.val (.int c1 (zs.getD z.toNat 0))):=by
       rw [b8,List.getElem?_map,List.getElem?_eq_getElem bD,List.getD_eq_getElem?_getD,List.getElem?_eq_getElem bD];rfl
      obtain ⟨y,U,a2⟩:=ao.get a5 b5
      rw [Array.getElem?_toList] at U
      refine ⟨y, ?_,a2⟩
      have ch:dG P e=false:=by unfold dG;rw [S]
      unfold part
      rw [bx.1,Nat.mul_one]
      simp only [Sem.run_bind,o9 S,ch,Result.andThen,Bool.false_eq_true,if_false,U,Sem.run_pure]
     ·cases h
    ·cases h
   ·obtain ⟨v,j,G⟩:=L8 h
    refine go j G ?_
    unfold tP at h
    simp only [Bool.cond_eq_ite] at h
    cases Z:dG P e with
    | true=>
     unfold dG at Z
     cases ab:P.underlying e with
     | none=>rw [ab] at Z;cases Z
     | some d=>exact qC ab
    | false=>
     rw [Z,if_neg (by decide)] at h
     split at h
     ·rename_i S
      obtain ⟨d,ab⟩:=Option.isSome_iff_exists.1 S
      exact qC ab
     ·cases h
  ·cases h
 ·cases h
theorem acs {x:Operand} (N:o.op= .nilCheck x) (h:EX (aA T x) H k=some r):bf P ro T o H (.some false []) lo k r:=by
 unfold EX at h
 have Z:∀ c,o.op≠ .defer c:=fun c h=>by rw [N] at h;cases h
 have go:∀ {v:AV},aA T x=v→k v H=some r→(∀ {D:Nat→Prop} {α:Nat→Nat×Nat} {B:Nat→Prop} {w:World} {y:Value},v.Rel P α B w D y→(∃ a,y= .pointer (some a))∨(∃ g I J,y= .func (.func g) I J)∨(∃ l,y= .func (.yield l) #[] #[]))→bf P ro T o H (.some false []) lo k r:=by
  intro v j S U
  refine eR S Z (fun D α B a w O=> ?_)
  have M:=O x (by rw [N];simp [Op.operands])
  rw [j] at M
  refine ⟨a.eval x, ?_,M⟩
  unfold execOp
  rw [N]
  rcases U M with ⟨b,e⟩ | ⟨g,I,J,e⟩ | ⟨l,e⟩ <;> simp only [e,Sem.run_pure]
 split at h
 ·rename_i i off j;exact go j h (fun G=> .inl ⟨_,G.2⟩)
 ·rename_i t n f ab off j;exact go j h (fun G=>by obtain ⟨_,b,a0,cs,ty,fr,e,_⟩:=G;exact .inl ⟨_,e⟩)
 ·rename_i g a b j;exact go j h (fun G=>by obtain ⟨I,J,e,_⟩:=G;exact .inr (.inl ⟨g,I,J,e⟩))
 ·rename_i i j;exact go j h (fun G=> .inr (.inr ⟨_,G.2⟩))
 ·rename_i g a b j;exact go j h (fun G=> .inr (.inl ⟨g,_,_,G⟩))
 ·cases h
theorem yF {D:Nat→Prop} {α:Nat→Nat×Nat} {B:Nat→Prop} {w:World} {a:Act} :∀ (l:List Operand),(∀ x ∈ l,(aA T x).Rel P α B w D (a.eval x))→ao P α B w (l.map (aA T)) D (l.map a.eval)
 | [],_=>rfl
 | x :: l,h=> ⟨_,_,rfl,h x List.mem_cons_self,yF l (fun y j=>h y (List.mem_cons_of_mem _ j))⟩
theorem acr {G:Fn} {x y:Array Operand} (j:o.op= .makeFunc G x y) (h:k (.clo G (x.toList.map (aA T)) (y.toList.map (aA T))) H=some r):bf P ro T o H (.some false []) lo k r:=by
 refine eR h (fun c h=>by rw [j] at h;cases h) (fun D α B a w J=> ?_)
 refine ⟨.func G (x.map a.eval) (y.map a.eval), ?_,_,_,rfl, ?_, ?_⟩
 ·unfold execOp;rw [j];rfl
 ·rw [Array.toList_map];exact yF _ (fun z I=>J z (by rw [j];simp only [Op.operands,Array.mem_append];exact .inl (Array.mem_toList_iff.1 I)))
 ·rw [Array.toList_map];exact yF _ (fun z I=>J z (by rw [j];simp only [Op.operands,Array.mem_append];exact .inr (Array.mem_toList_iff.1 I)))
theorem ach {x:Operand} {J:Nat} (j:o.op= .extract x J) (h:EU (aA T x) J H k=some r):bf P ro T o H (.some false []) lo k r:=by
 unfold EU at h
 split at h
 ·rename_i vs S
  split at h
  ·rename_i v Z
   refine eR h (fun c h=>by rw [j] at h;cases h) (fun D α B a w N=> ?_)
   have G:=N x (by rw [j];simp [Op.operands])
   rw [S] at G
   obtain ⟨ab,O,U⟩:=G
   obtain ⟨y,I,M⟩:=ao.get U Z
   rw [Array.getElem?_toList] at I
   refine ⟨y, ?_,M⟩
   unfold execOp
   rw [j]
   simp only [O,Instr.extract,I,Sem.run_bind,Sem.run_pure,Result.andThen]
  ·cases h
 ·cases h
theorem Zu {v:AV} (h:Db P T o=some v):∀ {D:Nat→Prop} {α:Nat→Nat×Nat} {B:Nat→Prop} {a:Act} {w:World},(∀ x ∈ o.op.operands,(aA T x).Rel P α B w D (a.eval x))→∃ x,(execOp a.eval o).run P w= .ok (.value x) w∧v.Rel P α B w D x:=by
 unfold Db at h
 cases j:o.op.operands.toList.all (fun x=>(toVal (aA T x)).isSome) with
 | false=>rw [j] at h;cases h
 | true=>
  rw [j] at h
  simp only [cond] at h
  rw [List.all_eq_true] at j
  split at h
  ·cases h
  ·rename_i O
   split at h
   ·rename_i u S
    cases h
    intro D α B a w N
    refine ⟨u, ?_,toAV_rel u⟩
    rw [execOp_congr (ρ:=a.eval) (ρ':=fun x=>(toVal (aA T x)).getD undef) o (fun cs b=>O cs b) (fun x G=> ?_)]
    ·exact Zy P _ S w
    ·have J:=N x G
     have M:=j x (Array.mem_toList_iff.2 G)
     obtain ⟨z,I⟩:=Option.isSome_iff_exists.1 M
     rw [I]
     exact toVal_rel I J
   ·cases h
theorem pE (I:∀ c,o.op≠ .defer c) (h:mV P T o H k=some r):bf P ro T o H (.some false []) lo k r:=by
 unfold mV at h
 split at h
 ·rename_i v G
  exact eR h I (fun D α B a w j=>Zu G j)
 ·cases h
theorem aco {c:Call} (S:o.op= .call c) (U:c.callee= .builtin .len) (h:EW P T o c.args.toList c.argTypes.toList H k=some r):bf P ro T o H (.some false []) lo k r:=by
 have a0:∀ c,o.op≠ .defer c:=fun c h=>by rw [S] at h;cases h
 unfold EW at h
 split at h
 ·rename_i x t N Z
  split at h
  ·rename_i v j
   refine eR h a0 (fun D α B a w a3=> ?_)
   have a5:x ∈ c.args:=Array.mem_toList_iff.1 (by rw [N];exact List.mem_cons_self)
   have J:=a3 x (by rw [S];simp only [Op.operands,Call.operands,Array.mem_append];exact .inr a5)
   have ab:∀ (A:Option Addr) (n cap:Nat) (M:TypeId),mU P t=some M→a.eval x= .slice A n cap→(execOp a.eval o).run P w= .ok (.value (.int .i64 n)) w:=by
    intro A n cap M I G
    have a6:=vo I
    obtain ⟨bx,a1,a2⟩:=c
    simp only at U N Z
    subst U
    have a4:a1= #[x]:=Array.ext' N
    have a7:a2= #[t]:=Array.ext' Z
    subst a4 a7
    unfold execOp
    rw [S]
    simp [resolve,invoke,builtin,Builtin.len_,G,run_underlying a6,Sem.run_bind,Result.andThen,goInt]
   unfold La at j
   simp only [Bool.cond_eq_ite] at j
   split at j
   ·rename_i fl M i off n O
    split at j
    ·rename_i I
     cases j
     rw [O] at J
     obtain ⟨_,cap,bD,G,_⟩:=J
     exact ⟨_,ab _ _ _ _ (by simpa using I) G,rfl⟩
    ·cases j
   ·rename_i fl M n f O
    split at j
    ·rename_i I
     cases j
     rw [O] at J
     obtain ⟨A,cap,G,_⟩:=J
     exact ⟨_,ab _ _ _ _ (by simpa using I) G,rfl⟩
    ·cases j
   ·cases j
  ·exact pE a0 h
 ·cases h
end
end Go.V
namespace Go.V
open Go Go.RowKit
section
variable {R : Type} {P : Program} {ro : Option Nat} {T : List AV} {o : Oper} {H : Hp} {lo : Nat} {k : Kn R} {r : R}
theorem mQ {w:World} {j:IntKind} {z:Int} {y:Nat} {code:BoundsCode} (G:0≤z) (I:z≤y):(Instr.sliceBound (.int j z) y code).run P w= .ok z.toNat w:=by rw [run_sliceBound _ j z y code G I]
def Bd (x:Option AV) (d l:Nat):Prop:=(x=none∧l=d)∨∃ j z,x=some (.val (.int j z))∧0≤z∧l=z.toNat
theorem nh {x:Option AV} {q:Option Int} (h:wG x=some q):(x=none∧q=none)∨∃ j z,x=some (.val (.int j z))∧q=some z:=by
 unfold wG at h
 split at h
 ·cases h;exact .inl ⟨rfl,rfl⟩
 ·cases h;exact .inr ⟨_,_,rfl,rfl⟩
 ·cases h
theorem oq {J:Type} {n:Nat} {low M:Option AV} {k:Nat→Nat→Option J} {r:J} (h:mj n low M k=some r):∃ l h',k l h'=some r∧l≤h'∧h'≤n∧Bd low 0 l∧Bd M n h':=by
 unfold mj at h
 simp only [Bool.cond_eq_ite] at h
 split at h
 ·rename_i I G
  rcases nh I with ⟨rfl,_⟩ | ⟨_,_,_,e⟩
  ·rcases nh G with ⟨rfl,_⟩ | ⟨_,_,_,e⟩
   ·exact ⟨0,n,h,Nat.zero_le _,Nat.le_refl _, .inl ⟨rfl,rfl⟩, .inl ⟨rfl,rfl⟩⟩
   ·cases e
  ·cases e
 ·rename_i zh I G
  split at h
  ·rename_i j
   rw [Bool.and_eq_true,decide_eq_true_eq,decide_eq_true_eq] at j
   rcases nh I with ⟨rfl,_⟩ | ⟨_,_,_,e⟩
   ·rcases nh G with ⟨_,e⟩ | ⟨N,z,rfl,e⟩
    ·cases e
    ·cases e;exact ⟨0,_,h,Nat.zero_le _,by omega, .inl ⟨rfl,rfl⟩, .inr ⟨_,_,rfl,j.1,rfl⟩⟩
   ·cases e
  ·cases h
 ·rename_i O I G
  split at h
  ·rename_i j
   rw [Bool.and_eq_true,decide_eq_true_eq,decide_eq_true_eq] at j
   rcases nh I with ⟨_,e⟩ | ⟨N,z,rfl,e⟩
   ·cases e
   ·cases e
    rcases nh G with ⟨rfl,_⟩ | ⟨_,_,_,e⟩
    ·exact ⟨_,n,h,by omega,Nat.le_refl _, .inr ⟨_,_,rfl,j.1,rfl⟩, .inl ⟨rfl,rfl⟩⟩
    ·cases e
  ·cases h
 ·rename_i O zh I G
  split at h
  ·rename_i j
   rw [Bool.and_eq_true,Bool.and_eq_true,decide_eq_true_eq,decide_eq_true_eq,decide_eq_true_eq] at j
   rcases nh I with ⟨_,e⟩ | ⟨N,z,rfl,e⟩
   ·cases e
   ·cases e
    rcases nh G with ⟨_,e⟩ | ⟨S,U,rfl,e⟩
    ·cases e
    ·cases e;exact ⟨_,_,h,by omega,by omega, .inr ⟨_,_,rfl,j.1.1,rfl⟩, .inr ⟨_,_,rfl,by omega,rfl⟩⟩
  ·cases h
 ·cases h
def vP (x:Option Value) (d l:Nat):Prop:=(x=none∧l=d)∨∃ j z,x=some (.int j z)∧0≤z∧l=z.toNat
theorem Bd.val {D : Nat → Prop} {α : Nat → Nat × Nat} {B : Nat → Prop} {w : World} {a : Act} {x : Option Operand} {d l : Nat} (h : Bd (x.map (aA T)) d l) (J : ∀ y, x = some y → (aA T y).Rel P α B w D (a.eval y)) : vP (x.map a.eval) d l := by
  cases x with
  | none => rcases h with ⟨_, h⟩ | ⟨j, z, e, _⟩
            · exact .inl ⟨rfl, h⟩
            · cases e
  | some y =>
    rcases h with ⟨e, _⟩ | ⟨j, z, e, G, I⟩
    · cases e
    · simp only [Option.map_some, Option.some.injEq] at e
      have := J y rfl
      rw [e] at this
      exact .inr ⟨j, z, by simp only [Option.map_some]; rw [show a.eval y = .int j z from this], G, I⟩
theorem vh {w:World} {b:Bool} {len cap l h:Nat} {low I:Option Value} (N:vP low 0 l) (M:vP I len h) (O:l≤h) (S:h≤cap):(Instr.sliceBounds b len cap low I none).run P w= .ok (l,h,cap) w:=by
 unfold Instr.sliceBounds
 rcases M with ⟨rfl,rfl⟩ | ⟨kh,zh,rfl,j,rfl⟩ <;> rcases N with ⟨rfl,rfl⟩ | ⟨U,J,rfl,G,rfl⟩
 ·simp [Sem.run_pure]
 ·simp only [Sem.run_bind,Sem.run_pure,Result.andThen,Option.isSome_none,Bool.false_eq_true,if_false,mQ G (show J≤(h:Int) by omega)]
 ·simp only [Sem.run_bind,Sem.run_pure,Result.andThen,mQ j (show zh≤(cap:Int) by omega)]
 ·simp only [Sem.run_bind,Sem.run_pure,Result.andThen,Option.isSome_none,Bool.false_eq_true,if_false,mQ j (show zh≤(cap:Int) by omega),mQ G (show J≤((zh.toNat:Nat):Int) by omega)]
theorem NH {w:World} {b:Bool} {len cap l h m:Nat} {low G J:Option Value} (S:vP low 0 l) {kh:IntKind} {zh:Int} (N:G=some (.int kh zh)) (j:0≤zh) (O:h=zh.toNat) {km:IntKind} {zm:Int} (U:J=some (.int km zm)) (I:0≤zm) (Z:m=zm.toNat) (a0:l≤h) (a1:h≤m) (a2:m≤cap):
  (Instr.sliceBounds b len cap low G J).run P w= .ok (l,h,m) w:=by
 subst N U O Z
 unfold Instr.sliceBounds
 rcases S with ⟨rfl,rfl⟩ | ⟨a3,ab,rfl,M,rfl⟩
 ·simp only [Sem.run_bind,Sem.run_pure,Result.andThen,mQ I (show zm≤(cap:Int) by omega),mQ j (show zh≤((zm.toNat:Nat):Int) by omega)]
 ·simp only [Sem.run_bind,Sem.run_pure,Result.andThen,mQ I (show zm≤(cap:Int) by omega),mQ j (show zh≤((zm.toNat:Nat):Int) by omega),mQ M (show ab≤((zh.toNat:Nat):Int) by omega)]
theorem OQ (s:ByteArray) (l h:Nat):s.extract l h=dC s l h:=by
 obtain ⟨⟨x⟩⟩:=s
 rw [Go.ByteArray.extract_mk];rfl
theorem EG {D:Nat→Prop} {α:Nat→Nat×Nat} {B:Nat→Prop} {w:World} {fl I:Bool} {t:TypeId} {i off len:Nat} {x:Value} {A:Option Addr} {cap:Nat} (U:(AV.sl fl t i off len).Rel P α B w D x) (N:x= .slice A len cap) {l h m:Nat} (ab:l≤h) (a0:h≤m) (M:m≤cap) (O:I=true→m=h):
  (AV.sl I t i (off+l*P.cellsOf t) (h - l)).Rel P α B w D (.slice (if m=l then A else A.map (·.add (l*P.cellsOf t))) (h - l) (m - l)):=by
 obtain ⟨S,Z,J,e,a1,a2,G⟩:=U
 rw [N] at e
 cases e
 refine ⟨S,m - l,if m=l then J else J+l*P.cellsOf t, ?_,by omega,fun e=>by have:=O e;omega, ?_⟩
 ·by_cases j:m=l
  ·rw [if_pos j,if_pos j]
  ·rw [if_neg j,if_neg j,Option.map_some,fB]
 ·by_cases j:m=l
  ·left;omega
  ·right
   rw [if_neg j]
   rcases G with G | ⟨rfl,G⟩
   ·omega
   ·refine ⟨rfl, ?_⟩
    have:l*P.cellsOf t+(m - l)*P.cellsOf t=m*P.cellsOf t:=by rw [← Nat.add_mul];congr 1;omega
    have:m*P.cellsOf t≤cap*P.cellsOf t:=Nat.mul_le_mul_right _ M
    omega
theorem Lq {D:Nat→Prop} {α:Nat→Nat×Nat} {B:Nat→Prop} {w:World} {fl G:Bool} {t:TypeId} {n:Nat} {f:Nat→Nat→AV} {x:Value} {A:Option Addr} {cap:Nat} (a0:(AV.lst fl t n f).Rel P α B w D x) (U:x= .slice A n cap) {l h m:Nat} (a4:h≤n) (a5:l≤h) (a6:h≤m) (a7:m≤cap) (Z:G=true→m=h):
  (AV.lst G t (h - l) (fun j q=>f (j+l) q)).Rel P α B w D (.slice (if m=l then A else A.map (·.add (l*P.cellsOf t))) (h - l) (m - l)):=by
 obtain ⟨a2,a3,e,bx,bD,I⟩:=a0
 rw [U] at e
 cases e
 refine ⟨_,_,rfl,by omega,fun e=>by have:=Z e;omega, ?_⟩
 by_cases b1:h=l
 ·left;omega
 ·right
  rw [if_neg (show ¬ m=l by omega)]
  rcases I with I | ⟨b,a1,cs,ty,fr,rfl,J,M,N⟩
  ·omega
  ·refine ⟨b,a1+l*P.cellsOf t,cs,ty,fr,by rw [Option.map_some,fB],J,M,fun j q b0 ab=> ?_⟩
   obtain ⟨y,O,S⟩:=N (j+l) q (by omega) ab
   refine ⟨y, ?_,S⟩
   rw [← O]
   congr 1
   rw [Nat.add_mul]
   omega
theorem vi {w:World} {t e:TypeId} (M:P.underlying t=some (.slice e)) {i:TypeInfo} (J:P.info? e=some i) {A:Option Addr} {len cap l h m:Nat} {low j G:Option Value} (I:(Instr.sliceBounds true len cap low j G).run P w= .ok (l,h,m) w):
  (Instr.sliceAt t (.slice A len cap) low j G).run P w= .ok (.slice (if m=l then A else A.map (·.add (l*P.cellsOf e))) (h - l) (m - l)) w:=by
 unfold Instr.sliceAt
 simp only [Sem.run_bind,run_underlying M,Result.andThen,Instr.slice,I,run_sizeOf w J,Sem.run_pure]
theorem acx {t:TypeId} {x:Operand} {low a5 Z:Option Operand} (b6:o.op= .slice t x low a5 Z) (h:EH P H t (aA T x) (low.map (aA T)) (a5.map (aA T)) (Z.map (aA T)) (fun v=>k v H)=some r):bf P ro T o H (.some false (tid false (aA T x))) lo k r:=by
 have b1:∀ c,o.op≠ .defer c:=fun c h=>by rw [b6] at h;cases h
 have b5:∀ {a:Act} {w:World} {y:Value},(Instr.sliceAt t (a.eval x) (low.map a.eval) (a5.map a.eval) (Z.map a.eval)).run P w= .ok y w→(execOp a.eval o).run P w= .ok (.value y) w:=by
  intro a w y J
  unfold execOp
  rw [b6]
  simp only [Sem.run_bind,J,Result.andThen,Sem.run_pure]
 have b4:x ∈ o.op.operands:=by rw [b6];simp [Op.operands]
 have b3:∀ y,low=some y→y ∈ o.op.operands:=by rintro y rfl;rw [b6];simp [Op.operands]
 have b2:∀ y,a5=some y→y ∈ o.op.operands:=by rintro y rfl;rw [b6];simp [Op.operands]
 have c8:∀ y,Z=some y→y ∈ o.op.operands:=by rintro y rfl;rw [b6];simp [Op.operands]
 unfold EH at h
 simp only [Bool.cond_eq_ite] at h
 split at h
 ·rename_i s a4 a2
  split at h
  ·rename_i M
   have M:Z=none:=by cases Z with | none=>rfl | some _=>cases M
   obtain ⟨l,h',O,N,U,ab,j⟩:=oq h
   refine dB O (fy _) b1 (fun B0 w0 bx D α a w bD a7 G=> ?_)
   have I:=G x b4
   rw [a2] at I
   have c3:a.eval x= .string s:=I
   refine ⟨_,b5 ?_,rfl⟩
   rw [M,c3]
   unfold Instr.sliceAt
   simp only [Sem.run_bind,run_underlying a4,Result.andThen,Instr.slice,Option.map_none,Option.isSome_none,Bool.false_eq_true,if_false,vh (P:=P) (w:=w) (b:=false) (ab.val (fun y J=>G y (b3 y J))) (j.val (fun y J=>G y (b2 y J))) N U,Sem.run_pure,OQ]
  ·cases h
 ·rename_i e fl ep i off len a4 a2
  split at h
  ·rename_i ch
   rw [Bool.and_eq_true,beq_iff_eq] at ch
   obtain ⟨rfl,S⟩:=ch
   obtain ⟨ti,S⟩:=Option.isSome_iff_exists.1 S
   split at h
   ·rename_i M
    have M:Z=none:=by cases Z with | none=>rfl | some _=>cases M
    obtain ⟨l,h',O,N,U,ab,j⟩:=oq h
    refine dB O (fy _) b1 (fun B0 w0 bx D α a w bD a7 G=> ?_)
    have I:=G x b4
    rw [a2] at I
    obtain ⟨_,cap,eo,a0,a1,ct,_⟩:=id I
    refine ⟨_,b5 ?_,EG I a0 N (Nat.le_trans U a1) (Nat.le_refl cap) ?_⟩
    ·rw [M,a0]
     exact vi a4 S (vh (ab.val (fun y J=>G y (b3 y J))) (j.val (fun y J=>G y (b2 y J))) N (Nat.le_trans U a1))
    ·intro a3
     cases a5 with
     | some a6=>cases a3
     | none=>
      rcases j with ⟨_,j⟩ | ⟨_,_,j,_⟩
      ·rw [ct a3,j]
      ·cases j
   ·rename_i km m M
    split at h
    ·rename_i c2 z c6
     obtain ⟨l,h',O,N,U,ab,j⟩:=oq h
     split at O
     ·rename_i a1
      rw [Bool.and_eq_true,decide_eq_true_eq,decide_eq_true_eq] at a1
      refine dB O (fy _) b1 (fun B0 w0 bx D α a w bD a7 G=> ?_)
      have I:=G x b4
      rw [a2] at I
      obtain ⟨_,cap,eo,a0,eb,ct,_⟩:=id I
      obtain ⟨a6,rfl,c0⟩:=Option.map_eq_some_iff.1 c6
      obtain ⟨b0,rfl,c5⟩:=Option.map_eq_some_iff.1 M
      have b7:=G a6 (b2 a6 rfl)
      have em:=G b0 (c8 b0 rfl)
      rw [c0] at b7
      rw [c5] at em
      have c1:0≤z∧h'=z.toNat:=by
       rcases j with ⟨j,_⟩ | ⟨_,_,j,b8,c4⟩
       ·cases j
       ·simp only [Option.map_some,Option.some.injEq] at j
        rw [c0] at j
        cases j
        exact ⟨b8,c4⟩
      refine ⟨_,b5 ?_,EG (m:=m.toNat) I a0 N (by omega) (by omega) ?_⟩
      ·rw [a0]
       exact vi a4 S (NH (ab.val (fun y J=>G y (b3 y J))) (kh:=c2) (zh:=z) (by rw [Option.map_some];rw [show a.eval a6= .int c2 z from b7]) c1.1 c1.2 (km:=km) (zm:=m) (by rw [Option.map_some];rw [show a.eval b0= .int km m from em]) (by omega) rfl N (by omega) (by omega))
      ·intro a3
       have:=of_decide_eq_true a3
       omega
     ·cases O
    ·cases h
   ·cases h
  ·cases h
 ·rename_i e fl ep n f a4 a2
  split at h
  ·rename_i ch
   rw [Bool.and_eq_true,beq_iff_eq] at ch
   obtain ⟨rfl,S⟩:=ch
   obtain ⟨ti,S⟩:=Option.isSome_iff_exists.1 S
   split at h
   ·rename_i M
    have M:Z=none:=by cases Z with | none=>rfl | some _=>cases M
    obtain ⟨l,h',O,N,U,ab,j⟩:=oq h
    refine dB O (fy _) b1 (fun B0 w0 bx D α a w bD a7 G=> ?_)
    have I:=G x b4
    rw [a2] at I
    obtain ⟨A,cap,a0,a1,ct,_⟩:=id I
    refine ⟨_,b5 ?_,Lq I a0 U N (Nat.le_trans U a1) (Nat.le_refl cap) ?_⟩
    ·rw [M,a0]
     exact vi a4 S (vh (ab.val (fun y J=>G y (b3 y J))) (j.val (fun y J=>G y (b2 y J))) N (Nat.le_trans U a1))
    ·intro a3
     cases a5 with
     | some a6=>cases a3
     | none=>
      rcases j with ⟨_,j⟩ | ⟨_,_,j,_⟩
      ·rw [ct a3,j]
      ·cases j
   ·rename_i km m M
    split at h
    ·rename_i c2 z c6
     obtain ⟨l,h',O,N,U,ab,j⟩:=oq h
     split at O
     ·rename_i a1
      rw [Bool.and_eq_true,decide_eq_true_eq,decide_eq_true_eq] at a1
      refine dB O (fy _) b1 (fun B0 w0 bx D α a w bD a7 G=> ?_)
      have I:=G x b4
      rw [a2] at I
      obtain ⟨A,cap,a0,eb,ct,_⟩:=id I
      obtain ⟨a6,rfl,c0⟩:=Option.map_eq_some_iff.1 c6
      obtain ⟨b0,rfl,c5⟩:=Option.map_eq_some_iff.1 M
      have b7:=G a6 (b2 a6 rfl)
      have em:=G b0 (c8 b0 rfl)
      rw [c0] at b7
      rw [c5] at em
      have c1:0≤z∧h'=z.toNat:=by
       rcases j with ⟨j,_⟩ | ⟨_,_,j,b8,c4⟩
       ·cases j
       ·simp only [Option.map_some,Option.some.injEq] at j
        rw [c0] at j
        cases j
        exact ⟨b8,c4⟩
      refine ⟨_,b5 ?_,Lq (m:=m.toNat) I a0 U N (by omega) (by omega) ?_⟩
      ·rw [a0]
       exact vi a4 S (NH (ab.val (fun y J=>G y (b3 y J))) (kh:=c2) (zh:=z) (by rw [Option.map_some];rw [show a.eval a6= .int c2 z from b7]) c1.1 c1.2 (km:=km) (zm:=m) (by rw [Option.map_some];rw [show a.eval b0= .int km m from em]) (by omega) rfl N (by omega) (by omega))
      ·intro a3
       have:=of_decide_eq_true a3
       omega
     ·cases O
    ·cases h
   ·cases h
  ·cases h
 ·rename_i e a4 a2
  split at h
  ·rename_i M
   have M:Z=none:=by cases Z with | none=>rfl | some _=>cases M
   split at h
   ·rename_i S
    obtain ⟨ti,S⟩:=Option.isSome_iff_exists.1 S
    obtain ⟨l,h',O,N,U,ab,j⟩:=oq h
    refine dB O (fy _) b1 (fun B0 w0 bx D α a w bD a7 G=> ?_)
    have I:=G x b4
    have dx:=I
    rw [a2] at I
    have c3:a.eval x= .slice none 0 0:=I
    refine ⟨_,b5 ?_,dx⟩
    have ed:l=0:=by omega
    have ec:h'=0:=by omega
    rw [M,c3]
    have:=vi (P:=P) (w:=w) a4 S (A:=none) (vh (len:=0) (cap:=0) (b:=true) (ab.val (fun y J=>G y (b3 y J))) (j.val (fun y J=>G y (b2 y J))) N U)
    rw [Option.map_none] at*
    rw [this,ed,ec]
    rfl
   ·cases h
  ·cases h
 ·rename_i n e i off a4 a2
  split at h
  ·rename_i c ty st M c7
   have M:Z=none:=by cases Z with | none=>rfl | some _=>cases M
   split at h
   ·rename_i a1
    rw [Bool.and_eq_true,Bool.and_eq_true,decide_eq_true_eq] at a1
    obtain ⟨⟨en,S⟩,eN⟩:=a1
    obtain ⟨ti,S⟩:=Option.isSome_iff_exists.1 S
    obtain ⟨l,h',O,N,U,ab,j⟩:=oq h
    refine dB O (fy _) b1 (fun B0 w0 bx D α a w bD a7 G=> ?_)
    have I:=G x b4
    rw [a2] at I
    obtain ⟨a5,a0⟩:=I
    have eh:=(List.getElem?_eq_some_iff.1 c7).1
    have dy:bx i=some (.row c ty st):=(bD i false (by rw [a2];simp [tid]) eh).trans c7
    obtain ⟨cs,fr,et,eu,ev,ey,ez⟩:=kG a7 a5 dy (by simpa using en)
    refine ⟨_,b5 ?_,EG (fl:=true) (t:=e) (i:=i) (off:=off) (len:=n) (A:=some ⟨(α i).1,off,none⟩) (cap:=n) (x:= .slice (some ⟨(α i).1,off,none⟩) n n) ⟨a5,n,off,rfl,Nat.le_refl _,fun _=>rfl, .inr ⟨rfl,by omega⟩⟩ rfl N U (Nat.le_refl _) ?_⟩
    ·rw [M,a0]
     unfold Instr.sliceAt
     simp only [Sem.run_bind,run_underlying a4,Result.andThen,Instr.sureAddr,Option.map_none,vh (P:=P) (w:=w) (b:=false) (ab.val (fun y J=>G y (b3 y J))) (j.val (fun y J=>G y (b2 y J))) N U,run_sizeOf w S,Sem.run_pure,Option.map_some]
     split <;> rfl
    ·intro a3
     rcases j with ⟨j,b8⟩ | ⟨_,_,j,_⟩
     ·exact b8.symm
     ·rw [j] at a3;cases a3
   ·cases h
  ·cases h
 ·cases h
end
end Go.V
namespace Go.V
open Go Go.RowKit
section
variable {R : Type} {P : Program} {ro : Option Nat} {T : List AV} {o : Oper} {H : Hp} {lo : Nat} {k : Kn R} {r : R}
theorem Pr {j:IntKind} {z:Int} (h:aj j z=true):j.wrap z=z:=by
 unfold aj at h
 rw [Bool.and_eq_true,decide_eq_true_eq,decide_eq_true_eq] at h
 obtain ⟨G,I⟩:=h
 cases j <;> simp [IntKind.min,IntKind.max,IntKind.wrap,IntKind.signed,IntKind.bits] at G I ⊢ <;> omega
theorem sc {j:IntKind} {z:Int} {K:AV→Option R} (h:om j z K=some r):K (.val (.int j (j.wrap z)))=some r:=by
 unfold om at h
 simp only [Bool.cond_eq_ite] at h
 split at h
 ·split at h
  ·rename_i G;rw [Pr G];exact h
  ·cases h
 ·exact h
theorem si (x y:Int):(x==y)=decide (x=y):=rfl
theorem W4 {j:BinOp} {I:IntKind} {x y:Int} {K:AV→Option R} (J:j≠ .shl∧j≠ .shr) (h:CF j I x y K=some r) (t:TypeId):∃ v,K (.val v)=some r∧∀ w,(binOp j t (.int I x) (.int I y)).run P w= .ok v w:=by
 cases j <;> simp only [CF] at h <;> (try (cases h;done))
 case add=>exact ⟨_,sc h,fun w=>by simp [binOp,Op.intArith,Sem.run_pure]⟩
 case sub=>exact ⟨_,sc h,fun w=>by simp [binOp,Op.intArith,Sem.run_pure]⟩
 case mul=>exact ⟨_,sc h,fun w=>by simp [binOp,Op.intArith,Sem.run_pure]⟩
 case quo=>
  simp only [Bool.cond_eq_ite,decide_eq_true_eq] at h
  split at h
  ·cases h
  ·rename_i G;exact ⟨_,sc h,fun w=>by simp [binOp,Op.intDiv,G,Sem.run_pure]⟩
 case rem=>
  simp only [Bool.cond_eq_ite,decide_eq_true_eq] at h
  split at h
  ·cases h
  ·rename_i G;exact ⟨_,h,fun w=>by simp [binOp,Op.intDiv,G,Sem.run_pure]⟩
 case and=>exact ⟨_,h,fun w=>by simp [binOp,Op.intBits,bV,Sem.run_pure]⟩
 case or=>exact ⟨_,h,fun w=>by simp [binOp,Op.intBits,bV,Sem.run_pure]⟩
 case xor=>exact ⟨_,h,fun w=>by simp [binOp,Op.intBits,bV,Sem.run_pure]⟩
 case andNot=>exact ⟨_,h,fun w=>by simp [binOp,Op.intBits,bV,Sem.run_pure]⟩
 case eql=>exact ⟨_,h,fun w=>by simp [binOp,Op.intCmp,Sem.run_pure];exact si x y⟩
 case neq=>exact ⟨_,h,fun w=>by simp [binOp,Op.intCmp,Sem.run_pure,bne];exact si x y⟩
 case lss=>exact ⟨_,h,fun w=>by simp [binOp,Op.intCmp,Sem.run_pure]⟩
 case leq=>exact ⟨_,h,fun w=>by simp [binOp,Op.intCmp,Sem.run_pure]⟩
 case gtr=>exact ⟨_,h,fun w=>by simp [binOp,Op.intCmp,Sem.run_pure]⟩
 case geq=>exact ⟨_,h,fun w=>by simp [binOp,Op.intCmp,Sem.run_pure]⟩
theorem NP {j:BinOp} {I M:IntKind} {x y:Int} {K:AV→Option R} (h:yN j I x y K=some r) (J:j= .shl∨j= .shr) (t:TypeId):∃ v,K (.val v)=some r∧∀ w,(binOp j t (.int I x) (.int M y)).run P w= .ok v w:=by
 unfold yN at h
 simp only [Bool.cond_eq_ite,decide_eq_true_eq] at h
 split at h
 ·cases h
 ·rename_i G
  rcases J with rfl | rfl
  ·exact ⟨_,sc h,fun w=>by simp [binOp,Op.shift,G,Sem.run_pure]⟩
  ·exact ⟨_,h,fun w=>by simp [binOp,Op.shift,G,Sem.run_pure]⟩
theorem Fj (s:ByteArray):s.toList=s.data.toList:=Go.ByteArray.toList_eq s
theorem acI (a b:ByteArray):a ++ b=ry a b:=by
 obtain ⟨⟨x⟩⟩:=a
 obtain ⟨⟨y⟩⟩:=b
 rw [Go.ByteArray.mk_append_mk];rfl
theorem acL {j:BinOp} {x y:ByteArray} {K:AV→Option R} (h:Fi j x y K=some r) (t:TypeId):∃ v,K (.val v)=some r∧∀ w,(binOp j t (.string x) (.string y)).run P w= .ok v w:=by
 cases j <;> simp only [Fi] at h <;> (try (cases h;done))
 case add=>
  simp only [Bool.cond_eq_ite,decide_eq_true_eq] at h
  split at h
  ·rename_i G
   refine ⟨_,h,fun w=> ?_⟩
   have:(binOp .add t (.string x) (.string y))=Op.stringOp .add x y:=by simp [binOp]
   rw [this,run_string_add_sum w x y G,acI]
  ·cases h
 all_goals exact ⟨_,h,fun w=>by simp [binOp,Op.stringOp,aG,strLt,Fj,Sem.run_pure]⟩
theorem L7 {t:TypeId} {J:Array Value} {off:Nat} {v:Value} (h:qT P t J.toList off=some v) (w:World):(part t J off).run P w= .ok v w:=by
 unfold qT at h
 simp only [Bool.cond_eq_ite] at h
 split at h
 ·rename_i j
  cases h
  have I:∃ d,P.underlying t=some d:=by
   unfold dG at j
   cases G:P.underlying t with
   | none=>rw [G] at j;cases j
   | some d=>exact ⟨d,rfl⟩
  obtain ⟨d,G⟩:=I
  obtain ⟨i,M⟩:=qC G
  unfold part
  simp only [Sem.run_bind,o9 G,j,Result.andThen,if_true,run_sizeOf w M,Sem.run_pure]
  congr 2
  apply Array.ext'
  rw [Array.toList_extract,List.extract_eq_take_drop,Nat.add_sub_cancel_left]
 ·rename_i j
  split at h
  ·rename_i I
   obtain ⟨d,G⟩:=Option.isSome_iff_exists.1 I
   rw [Array.getElem?_toList] at h
   unfold part
   simp only [Sem.run_bind,o9 G,j,Result.andThen,Bool.false_eq_true,if_false,h,Sem.run_pure]
  ·cases h
theorem Cb {E:TypeId→Value→Value→Option Bool} {d:Nat} (G:∀ t x y q,E t x y=some q→∀ w,(Op.equalIn d t x y).run P w= .ok q w) {M N:Array Value} :∀ (j:List Field) {q:Bool},oB P E M.toList N.toList j=some q→∀ w,(Op.eqFields d M N j).run P w= .ok q w
 | [],q,h,w=>by cases h;simp [Op.eqFields,Sem.run_pure]
 | f :: j,q,h,w=>by
  rw [oB] at h
  simp only [Bool.cond_eq_ite] at h
  rw [Op.eqFields]
  split at h
  ·rename_i I
   have J : ¬ f.name ≠ "_" := by simpa using I
   rw [if_neg J]
   exact Cb G j h w
  ·rename_i I
   have J : f.name ≠ "_" := by simpa using I
   rw [if_pos J]
   split at h
   ·rename_i a b U Z
    split at h
    ·rename_i ab O
     split at h
     ·rename_i a0 S
      cases h
      simp only [Sem.run_bind,L7 U w,L7 Z w,G _ _ _ _ O w,Result.andThen]
      cases ab
      ·simp [Sem.run_pure]
      ·simp only [Bool.not_true,Bool.false_eq_true,if_false,Bool.true_and]
       exact Cb G j S w
     ·cases h
    ·cases h
   ·cases h
theorem Ku:∀ (d:Nat) {t:TypeId} {x y:Value} {q:Bool},jh P d t x y=some q→∀ (n:Nat) (w:World),d≤n→(Op.equalIn n t x y).run P w= .ok q w
 | 0,t,x,y,q,h,n,w,M=>by cases h
 | d+1,t,x,y,q,h,n,w,M=>by
  obtain ⟨n,rfl⟩:∃ m,n=m+1:= ⟨n - 1,by omega⟩
  unfold jh at h
  split at h
  ·rename_i j;cases h;rw [run_equalIn_bool' w n t _ _ j]
  ·rename_i j
   simp only [Bool.cond_eq_ite] at h
   split at h
   ·rename_i G
    have G:=of_decide_eq_true G
    subst G
    cases h
    rw [run_equalIn_int w n t _ _ _ _ j]
    rfl
   ·cases h
  ·rename_i j;cases h;rw [run_equalIn_string w n t _ _ j,Fj,Fj];rfl
  ·rename_i J S U j
   simp only [Bool.cond_eq_ite] at h
   split at h
   ·cases h
   ·rename_i N
    have I:P.fieldsOf t=J:=by simp [Program.fieldsOf,j]
    rw [run_equalIn_struct w n t S U (by rw [I];exact j) (by simpa using N),I]
    exact Cb (fun t x y q O w=>Ku d O n w (by omega)) _ h w
  ·rename_i j;cases h;simp [Op.equalIn,run_underlying j,Sem.run_pure]
  ·rename_i j;cases h;simp [Op.equalIn,run_underlying j,Sem.run_pure]
  ·rename_i j;cases h;simp [Op.equalIn,run_underlying j,Sem.run_pure]
  ·rename_i j;cases h;simp [Op.equalIn,run_underlying j,Sem.run_pure]
  ·rename_i j;cases h;simp [Op.equalIn,run_underlying j,Sem.run_pure]
  ·cases h
end
end Go.V
namespace Go.V
open Go Go.RowKit
section
variable {R : Type} {P : Program} {ro : Option Nat} {T : List AV} {o : Oper} {H : Hp} {lo : Nat} {k : Kn R} {r : R}
theorem yL {j:BinOp} {t ty:TypeId} {x y:Operand} {a:Act} {w:World} {u v z:Value} (J:o.op= .binOp j t x y ty) (M:a.eval x=u) (N:a.eval y=v) (I:(eqGuard j t x y u v).run P w= .ok () w) (G:(binOp j t u v).run P w= .ok z w):(execOp a.eval o).run P w= .ok (.value z) w:=by
 unfold execOp
 rw [J]
 simp only [M,N,Sem.run_bind,I,Result.andThen,G,Sem.run_pure]
theorem WV {j:BinOp} {t:TypeId} {x y:Operand} {w:World} {I G:IntKind} {a b:Int} :(eqGuard j t x y (.int I a) (.int G b)).run P w= .ok () w:=by cases j <;> simp [eqGuard,Sem.run_pure]
theorem WX {j:BinOp} {t:TypeId} {x y:Operand} {w:World} {a b:ByteArray} :(eqGuard j t x y (.string a) (.string b)).run P w= .ok () w:=by cases j <;> simp [eqGuard,Sem.run_pure]
theorem WW {j:BinOp} {t:TypeId} {x y:Operand} {w:World} {a b:Value} (G:nC a=true) (I:nC b=true) (J:P.eqGuardType P.depth t=false):(eqGuard j t x y a b).run P w= .ok () w:=by
 cases a <;> simp only [nC,Bool.false_eq_true] at G <;> cases b <;> simp only [nC,Bool.false_eq_true] at I <;> first
  | exact run_eqGuard_agg w j t x y _ _ J
  | (cases j <;> simp [eqGuard,Sem.run_pure])
def qq (j:BinOp) (q:Bool):Bool:=match j with | .eql=>q | _=> !q
theorem Ju {j:BinOp} {t:TypeId} {a b:Value} {w:World} {q:Bool} (G:j= .eql∨j= .neq) (N:∀ s u,¬ (a= .string s∧b= .string u)) (M:∀ k x O y,¬ (a= .int k x∧b= .int O y)) (J:∀ k x,a≠ .float k x) (I:∀ k x y,a≠ .complex k x y) (h:(Op.equal t a b).run P w= .ok q w):(binOp j t a b).run P w= .ok (.bool (qq j q)) w:=by
 have S:∀ j,j=BinOp.eql∨j= .neq→binOp j t a b=(if j= .eql then (do pure (.bool (← Op.equal t a b))) else (do pure (.bool (!(← Op.equal t a b))))):=by
  intro j G
  rcases G with rfl | rfl <;> (cases a <;> cases b <;> first
   | rfl
   | exact absurd ⟨rfl,rfl⟩ (N _ _)
   | exact absurd ⟨rfl,rfl⟩ (M _ _ _ _)
   | exact absurd rfl (J _ _)
   | exact absurd rfl (I _ _ _)
   | simp [binOp])
 rw [S j G]
 rcases G with rfl | rfl
 ·simp only [if_true,Sem.run_bind,h,Result.andThen,Sem.run_pure,qq]
 ·simp only [reduceCtorEq,if_false,Sem.run_bind,h,Result.andThen,Sem.run_pure,qq]
theorem Wj {d : Nat} {t : TypeId} {a b : Value} {q : Bool} (h : jh P d t a b = some q) : (∀ k x, a ≠ .float k x) ∧ (∀ k x y, a ≠ .complex k x y) := by
  constructor
  · rintro k x rfl
    cases d with
    | zero => cases h
    | succ d => unfold jh at h; split at h <;> first | (rename_i e; cases e; done) | cases h | skip
                all_goals (first | (rename_i e _; cases e) | (rename_i e _ _; cases e) | skip)
                all_goals simp_all
  · rintro k x y rfl
    cases d with
    | zero => cases h
    | succ d => unfold jh at h; split at h <;> first | (rename_i e; cases e; done) | cases h | skip
                all_goals (first | (rename_i e _; cases e) | (rename_i e _ _; cases e) | skip)
                all_goals simp_all
theorem KQ {j:BinOp} {t:TypeId} {x y:Operand} {w:World} {a b:Value} (h:∀ I,a≠ .agg I) (G:a≠ .nilIface):(eqGuard j t x y a b).run P w= .ok () w:=by
 cases a <;> first
  | exact absurd rfl (h _)
  | exact absurd rfl G
  | (cases j <;> simp [eqGuard,Sem.run_pure])
theorem Kv {t e:TypeId} {w:World} {A:Addr} {n c m d:Nat} (j:P.underlying t=some (.slice e)):(Op.equal t (.slice (some A) n c) (.slice none m d)).run P w= .ok false w:=by
 show (Op.equalIn (9999+1) t _ _).run P w=_
 unfold Op.equalIn
 simp only [Sem.run_bind,run_underlying j,Result.andThen,Sem.run_pure]
theorem Wp {t e:TypeId} {w:World} {A:Addr} {n c m d:Nat} (j:P.underlying t=some (.slice e)):(Op.equal t (.slice none m d) (.slice (some A) n c)).run P w= .ok false w:=by
 show (Op.equalIn (9999+1) t _ _).run P w=_
 unfold Op.equalIn
 simp only [Sem.run_bind,run_underlying j,Result.andThen,Sem.run_pure,Option.isNone_some]
theorem Wl {t:TypeId} {ps I:Array TypeId} {J:Bool} {w:World} {j:Fn} {M N:Array Value} (G:P.underlying t=some (.func ps I J)):(Op.equal t (.func j M N) .nilFunc).run P w= .ok false w:=by
 show (Op.equalIn (9999+1) t _ _).run P w=_
 unfold Op.equalIn
 simp only [Sem.run_bind,run_underlying G,Result.andThen,Sem.run_pure]
theorem Wm {t:TypeId} {ps I:Array TypeId} {J:Bool} {w:World} {j:Fn} {M N:Array Value} (G:P.underlying t=some (.func ps I J)):(Op.equal t .nilFunc (.func j M N)).run P w= .ok false w:=by
 show (Op.equalIn (9999+1) t _ _).run P w=_
 unfold Op.equalIn
 simp only [Sem.run_bind,run_underlying G,Result.andThen,Sem.run_pure]
theorem Wn {t e:TypeId} {w:World} {A:Addr} (j:P.underlying t=some (.pointer e)):(Op.equal t (.pointer (some A)) (.pointer none)).run P w= .ok false w:=by
 show (Op.equalIn (9999+1) t _ _).run P w=_
 unfold Op.equalIn
 simp only [Sem.run_bind,run_underlying j,Result.andThen,Sem.run_pure]
theorem Wo {t e:TypeId} {w:World} {A:Addr} (j:P.underlying t=some (.pointer e)):(Op.equal t (.pointer none) (.pointer (some A))).run P w= .ok false w:=by
 show (Op.equalIn (9999+1) t _ _).run P w=_
 unfold Op.equalIn
 simp only [Sem.run_bind,run_underlying j,Result.andThen,Sem.run_pure,Option.isNone_some]
theorem Wk {J:BinOp} {t:TypeId} {a b:AV} {q:Bool} (Z:J= .eql∨J= .neq) (h:oA P t a b=some q) (U:∀ v,toVal a=some v→(∀ N z,v≠ .int N z)∧(∀ s,v≠ .string s)) {D:Nat→Prop} {α:Nat→Nat×Nat} {B:Nat→Prop} {w:World} {u v:Value} (G:a.Rel P α B w D u) (I:b.Rel P α B w D v) (x y:Operand):
  (eqGuard J t x y u v).run P w= .ok () w∧(binOp J t u v).run P w= .ok (.bool (qq J q)) w:=by
 have go:∀ {u v:Value} {q:Bool},(∀ b3,u≠ .agg b3)→u≠ .nilIface→(∀ N z,u≠ .int N z)→(∀ s,u≠ .string s)→(∀ k x,u≠ .float k x)→(∀ k x y,u≠ .complex k x y)→(Op.equal t u v).run P w= .ok q w→
   (eqGuard J t x y u v).run P w= .ok () w∧(binOp J t u v).run P w= .ok (.bool (qq J q)) w:=
  fun a3 a4 a5 M a6 a7 bx=> ⟨KQ a3 a4,Ju Z (fun s b2 e=>M s e.1) (fun k x b0 y e=>a5 k x e.1) a6 a7 bx⟩
 unfold oA at h
 split at h
 ·rename_i b4 b5 ea ab
  simp only [Bool.cond_eq_ite] at h
  split at h
  ·rename_i O
   rw [Bool.and_eq_true,Bool.and_eq_true,Bool.not_eq_true'] at O
   obtain ⟨⟨a0,a1⟩,a2⟩:=O
   rw [toVal_rel ea G,toVal_rel ab I]
   have S:=Wj h
   exact ⟨WW a0 a1 a2,Ju Z (fun s b2 e=>(U _ ea).2 s e.1) (fun k x b0 y e=>(U _ ea).1 k x e.1) S.1 S.2 (Ku 20 h 10000 w (by decide))⟩
  ·cases h
 ·split at h
  ·rename_i j _
   cases h
   obtain ⟨_,cap,b1,rfl,_⟩:=G
   cases I
   exact go (by simp) (by simp) (by simp) (by simp) (by simp) (by simp) (Kv j)
  ·rename_i j _
   cases h
   obtain ⟨_,cap,b1,rfl,_⟩:=I
   cases G
   exact go (by simp) (by simp) (by simp) (by simp) (by simp) (by simp) (Wp j)
  ·rename_i j _
   cases h
   obtain ⟨_,_,rfl,_⟩:=G
   cases I
   exact go (by simp) (by simp) (by simp) (by simp) (by simp) (by simp) (Wl j)
  ·rename_i j _
   cases h
   obtain ⟨_,_,rfl,_⟩:=I
   cases G
   exact go (by simp) (by simp) (by simp) (by simp) (by simp) (by simp) (Wm j)
  ·rename_i j _
   cases h
   obtain ⟨_,rfl⟩:=G
   cases I
   exact go (by simp) (by simp) (by simp) (by simp) (by simp) (by simp) (Wn j)
  ·rename_i j _
   cases h
   obtain ⟨_,rfl⟩:=I
   cases G
   exact go (by simp) (by simp) (by simp) (by simp) (by simp) (by simp) (Wo j)
  ·rename_i j _
   rw [Bool.cond_eq_ite] at h
   split at h
   ·rename_i bD
    cases h
    obtain ⟨A,cap,rfl,_,_,M⟩:=G
    obtain ⟨b,o,cs,ty,fr,rfl,_⟩:=M.resolve_left (by have:=of_decide_eq_true bD;omega)
    cases I
    exact go (by simp) (by simp) (by simp) (by simp) (by simp) (by simp) (Kv j)
   ·cases h
  ·cases h
theorem KW {x:Value} (h:lq x=true):x= .bool (aM x):=by
 cases x with
 | bool b=>rfl
 | _=>cases h
theorem KY {x:Value} (h:eL x=true):x= .string (ah x):=by
 cases x with
 | string s=>rfl
 | _=>cases h
theorem Ca {R:Type} {J:TypeId→Value→Value→(Bool→Option R)→Option R} {E:TypeId→Value→Value→Option Bool} (G:∀ t x y K r,J t x y K=some r→∃ q,E t x y=some q∧K q=some r) {M N:List Value} :∀ {j:List Field} {K:Bool→Option R} {r:R},tn P J M N j K=some r→∃ q,oB P E M N j=some q∧K q=some r
 | [],K,r,h=> ⟨true,rfl,h⟩
 | f :: j,K,r,h=>by
  rw [tn] at h
  rw [oB]
  simp only [Bool.cond_eq_ite] at h ⊢
  split at h
  ·rename_i I
   rw [if_pos I]
   exact Ca G h
  ·rename_i I
   rw [if_neg I]
   split at h
   ·rename_i a b a0 a1
    obtain ⟨q,O,S⟩:=G _ _ _ _ _ h
    obtain ⟨ab,U,Z⟩:=Ca G S
    exact ⟨q&&ab,by simp only [O,U],Z⟩
   ·cases h
theorem Kt {R:Type} :∀ (d:Nat) {t:TypeId} {x y:Value} {K:Bool→Option R} {r:R},xC P d t x y K=some r→∃ q,jh P d t x y=some q∧K q=some r
 | 0,t,x,y,K,r,h=>by cases h
 | d+1,t,x,y,K,r,h=>by
  unfold xC at h
  simp only [Bool.cond_eq_ite] at h
  split at h
  ·rename_i G
   split at h
   ·rename_i j
    rw [Bool.and_eq_true] at j
    refine ⟨_, ?_,h⟩
    rw [KW j.1,KW j.2]
    unfold jh
    rw [G];rfl
   ·cases h
  ·rename_i G
   split at h
   ·rename_i j
    rw [Bool.and_eq_true] at j
    refine ⟨_, ?_,h⟩
    rw [KY j.1,KY j.2]
    unfold jh
    rw [G];rfl
   ·cases h
  ·rename_i S G
   split at h
   ·rename_i U Z
    split at h
    ·cases h
    ·rename_i O
     obtain ⟨q,I,J⟩:=Ca (fun t x y K r M=>Kt d M) h
     refine ⟨q, ?_,J⟩
     unfold jh
     rw [G]
     simp only [Bool.cond_eq_ite,if_neg O]
     exact I
   ·cases h
  ·split at h
   ·rename_i q N
    exact ⟨q,N,h⟩
   ·cases h
theorem Ks {R:Type} {t:TypeId} {x y:AV} {K:Bool→Option R} {r:R} (h:B9 P t x y K=some r):∃ q,oA P t x y=some q∧K q=some r:=by
 unfold B9 at h
 split at h
 ·rename_i a b I J
  simp only [Bool.cond_eq_ite] at h
  split at h
  ·rename_i M
   obtain ⟨q,j,G⟩:=Kt 20 h
   refine ⟨q, ?_,G⟩
   unfold oA
   rw [I,J]
   simp only [Bool.cond_eq_ite,if_pos M]
   exact j
  ·cases h
 ·split at h
  ·rename_i S _
   rw [Bool.cond_eq_ite] at h
   split at h
   ·rename_i N
    refine ⟨false, ?_,h⟩
    unfold oA
    simp only [toVal,S,N,cond_true]
   ·cases h
  ·split at h
   ·rename_i q O
    exact ⟨q,O,h⟩
   ·cases h
theorem step_eq {G:BinOp} {t ty:TypeId} {x y:Operand} (I:o.op= .binOp G t x y ty) (h:wE P G t (aA T x) (aA T y) H k=some r) (Z:∀ v,toVal (aA T x)=some v→(∀ a0 z,v≠ .int a0 z)∧(∀ s,v≠ .string s)):bf P ro T o H (.some false []) lo k r:=by
 have a1:∀ c,o.op≠ .defer c:=fun c h=>by rw [I] at h;cases h
 have go:∀ {q:Bool},(G= .eql∨G= .neq)→oA P t (aA T x) (aA T y)=some q→k (.val (.bool (qq G q))) H=some r→bf P ro T o H (.some false []) lo k r:=by
  intro q ab j U
  refine eR U a1 (fun D α B a w J=> ?_)
  have O:=J x (by rw [I];simp [Op.operands])
  have S:=J y (by rw [I];simp [Op.operands])
  obtain ⟨M,N⟩:=Wk ab j Z O S x y
  exact ⟨_,yL I rfl rfl M N,rfl⟩
 unfold wE at h
 split at h
 ·unfold xD at h
  obtain ⟨q,j,h⟩:=Ks h
  exact go (.inl rfl) j h
 ·unfold xD at h
  obtain ⟨q,j,h⟩:=Ks h
  exact go (.inr rfl) j h
 ·cases h
theorem ab4 {a0:BinOp} {t ty:TypeId} {x y:Operand} (G:o.op= .binOp a0 t x y ty) (h:EK P a0 t (aA T x) (aA T y) H k=some r):bf P ro T o H (.some false []) lo k r:=by
 have a1:∀ c,o.op≠ .defer c:=fun c h=>by rw [G] at h;cases h
 unfold EK at h
 split at h
 ·rename_i v O
  split at h
  ·rename_i a6 a
   split at h
   ·rename_i a7 b ab
    have S:(∃ v,k (.val v) H=some r∧∀ w,(binOp a0 t (.int a6 a) (.int a7 b)).run P w= .ok v w)→bf P ro T o H (.some false []) lo k r:=by
     rintro ⟨v,I,U⟩
     refine eR I a1 (fun D α B a2 w N=> ?_)
     have J:=N x (by rw [G];simp [Op.operands])
     have M:=N y (by rw [G];simp [Op.operands])
     rw [O] at J
     rw [ab] at M
     exact ⟨v,yL G J M WV (U w),rfl⟩
    unfold Jt at h
    split at h
    ·exact S (NP h (.inl rfl) t)
    ·exact S (NP h (.inr rfl) t)
    ·rename_i bD b0
     simp only [Bool.cond_eq_ite] at h
     split at h
     ·rename_i I
      have I:=of_decide_eq_true I
      subst I
      exact S (W4 ⟨bD,b0⟩ h t)
     ·cases h
   ·cases h
  ·rename_i s
   split at h
   ·rename_i b2 ab
    obtain ⟨v,I,U⟩:=acL h t (P:=P)
    refine eR I a1 (fun D α B a2 w N=> ?_)
    have J:=N x (by rw [G];simp [Op.operands])
    have M:=N y (by rw [G];simp [Op.operands])
    rw [O] at J
    rw [ab] at M
    exact ⟨v,yL G J M WX (U w),rfl⟩
   ·cases h
  ·rename_i a4 a5
   refine step_eq G (by rw [O];exact h) (fun b1 j=> ?_)
   rw [O] at j
   cases j
   exact ⟨fun bx z e=>a4 bx z e,fun s e=>a5 s e⟩
 ·rename_i a3
  refine step_eq G h (fun b1 j=> ?_)
  cases Z:aA T x with
  | val v=>exact absurd Z (a3 v)
  | agg cs=>
   rw [Z] at j
   simp only [toVal,Bool.cond_eq_ite] at j
   split at j
   ·cases j;exact ⟨by simp,by simp⟩
   ·cases j
  | _=>rw [Z] at j;cases j
end
end Go.V
namespace Go.V
open Go Go.RowKit
theorem acX (c:aC) (o m:Nat):(c.sub o m).a9=(c.a9.drop o).take m:=by
 cases c <;> simp [aC.sub,aC.a9,List.map_take,List.map_drop]
theorem OV (c:aC) (o m:Nat) (h:o+m≤c.len):(c.sub o m).len=m:=by
 cases c <;> simp [aC.sub,aC.len] at h ⊢ <;> omega
theorem CG {k:IntKind} {c:aC} {zs:List Int} (h:c.tB k=some zs):c.a9=zs.map (fun z=> .val (.int k z))∧c.len=zs.length:=by
 cases c with
 | cells l=>have:=qk h;subst this;exact ⟨rfl,by simp [aC.len]⟩
 | ints G I=>
  simp only [aC.tB,Bool.cond_eq_ite] at h
  split at h
  ·rename_i j;have j:=of_decide_eq_true j;subst j;cases h;exact ⟨rfl,rfl⟩
  ·cases h
 | vals vs=>
  have:=qk h
  refine ⟨this, ?_⟩
  have:=congrArg List.length this
  simpa [aC.len] using this
theorem wB {O:Option IntKind} {a b c:aC} {n:Nat} (h:a.app O n b=some c) (U:n≤a.len):c.a9=a.a9.take n ++ b.a9∧c.len=n+b.len:=by
 have j:∀ {c:aC},c.a9=a.a9.take n ++ b.a9→c.a9=a.a9.take n ++ b.a9∧c.len=n+b.len:=by
  intro c G
  refine ⟨G, ?_⟩
  have:=congrArg List.length G
  rw [aC.eK,List.length_append,List.length_take,aC.eK,aC.eK] at this
  omega
 unfold aC.app at h
 split at h
 ·rename_i k
  split at h
  ·rename_i S M
   split at h
   ·rename_i Z N
    cases h
    apply j
    rw [(CG M).1,(CG N).1]
    simp [aC.a9,List.map_take]
   ·cases h
  ·cases h
 ·split at h
  ·cases h;apply j;simp [aC.a9,List.map_take]
  ·cases h;apply j;simp [aC.a9]
  ·rename_i S l
   simp only [Bool.cond_eq_ite] at h
   split at h
   ·rename_i I
    cases h
    apply j
    have:(l.map rP).map AV.val=l:=by
     rw [List.map_map]
     conv=>rhs;rw [← List.map_id l]
     apply List.map_congr_left
     intro v J
     have:=List.all_eq_true.1 I v J
     cases v <;> simp [isVal] at this
     rfl
    simp [aC.a9,List.map_take,this]
   ·cases h
  ·cases h;exact j rfl
theorem Cl {S:Type} (g:Nat→Nat→S) (sz:Nat):∀ (n q:Nat),q < n*sz→((List.range n).flatMap fun I=>(List.range sz).map (g I))[q]? =some (g (q / sz) (q % sz))
 | 0,q,h=>by omega
 | n+1,q,h=>by
  have O:0 < sz:=by
   rcases Nat.eq_zero_or_pos sz with j | j
   ·subst j;omega
   ·exact j
  have G:((List.range n).flatMap fun I=>(List.range sz).map (g I)).length=n*sz:=by
   simp [List.length_flatMap,List.map_const']
  rw [List.range_succ,List.flatMap_append]
  by_cases M:q < n*sz
  ·rw [List.getElem?_append_left (by rw [G];exact M)]
   exact Cl g sz n q M
  ·rw [List.getElem?_append_right (by rw [G];omega),G]
   have U:(n+1)*sz=n*sz+sz:=Nat.succ_mul n sz
   have J:q / sz=n:=by
    rw [Nat.div_eq_iff O]
    have:(n+1)*sz=n*sz+sz:=Nat.succ_mul n sz
    constructor <;> omega
   have N:q % sz=q - n*sz:=by
    have:=Nat.div_add_mod q sz
    rw [J,Nat.mul_comm] at this
    omega
   rw [J,N]
   simp only [List.flatMap_cons,List.flatMap_nil,List.append_nil]
   rw [List.getElem?_map,List.getElem?_range (by omega)]
   rfl
section
variable {P : Program} {D : Nat → Prop} {α : Nat → Nat × Nat} {B : Nat → Prop} {w : World}
structure Src (P:Program) (D:Nat→Prop) (α:Nat→Nat×Nat) (B:Nat→Prop) (w:World) (c:aC) (n sz:Nat) (u:Value) (news:List Value):Prop where
 len:news.length=n*sz
 St:c.len=n*sz
 rel:ao P α B w c.a9 D news
 lenOf:∀ w2,(Builtin.lenOf u).run P w2= .ok n w2
 cells:∀ w2,w2.heap=w.heap→(Builtin.firstCells sz n u).run P w2= .ok news.toArray w2
theorem xH {a:Addr} {n m cap sz:Nat} {G:List Value} (M:G.length=n*sz) (h:∀ j v,G[j]? =some v→w.cell? (a.add j)=some v) (I:World) (N:I.heap=w.heap):(Builtin.firstCells sz n (.slice (some a) m cap)).run P I= .ok G.toArray I:=
 run_firstCells_some I sz n a m cap G M (fun j v J=>by have:=h j v J;unfold World.cell? at this ⊢;rw [N];exact this)
theorem qy {A:Option Addr} {m cap sz:Nat} (j:World):(Builtin.firstCells sz 0 (.slice A m cap)).run P j= .ok #[] j:=by
 cases A with
 | none=>exact run_firstCells_none j sz 0 m cap
 | some a=>exact run_firstCells_some j sz 0 a m cap [] (by simp) (fun I v G=>by simp at G)
theorem Kz {j G:Type} (g:j→G):∀ l:List j,(l.flatMap fun x=> [g x])=l.map g
 | []=>rfl
 | x :: l=>by rw [List.flatMap_cons,Kz g l];rfl
theorem Ep {k:Option IntKind} {sz n:Nat} {f:Nat→Nat→AV} {c:aC} (j:vf k sz n f=some c):c.a9=(List.range n).flatMap fun I=>(List.range sz).map (f I):=by
 unfold vf at j
 split at j
 ·simp only [Bool.cond_eq_ite] at j
  split at j
  ·rename_i M
   rw [beq_iff_eq] at M
   split at j
   ·rename_i zs S
    cases j
    subst M
    simp only [aC.a9]
    rw [← qk S]
    exact (Kz (fun I=>f I 0) _).symm
   ·cases j
  ·cases j
 ·simp only [Bool.cond_eq_ite] at j
  split at j
  ·rename_i O
   cases j
   refine List.ext_getElem? fun i=> ?_
   by_cases G:i < n*sz
   ·rw [Cl f sz n i G]
    have J:=List.all_eq_true.1 O i (List.mem_range.2 G)
    show ((af sz n f).map AV.val)[i]? =_
    unfold af
    rw [List.map_map,List.getElem?_map,List.getElem?_range G,Option.map_some]
    show some (AV.val (rP (f (i / sz) (i % sz))))=_
    cases N:f (i / sz) (i % sz) with
    | val v=>rfl
    | _=>rw [N] at J;exact absurd J (by simp [isVal])
   ·rw [List.getElem?_eq_none (by simp only [aC.a9,af,List.length_map,List.length_range];omega),List.getElem?_eq_none (by simp only [List.length_flatMap,List.map_const',List.length_map,List.length_range,List.sum_replicate_nat];omega)]
  ·cases j
theorem Nz {R:Type} {k:Option IntKind} {sz n:Nat} {f:Nat→Nat→AV} {K:aC→Option R} {r:R} (h:yK k sz n f K=some r):∃ c,vf k sz n f=some c∧K c=some r:=by
 unfold yK at h
 unfold vf
 split at h
 ·simp only [Bool.cond_eq_ite] at h ⊢
  split at h
  ·rename_i G
   rw [if_pos G]
   split at h
   ·rename_i zs I
    exact ⟨_,rfl,h⟩
   ·cases h
  ·cases h
 ·simp only [Bool.cond_eq_ite] at h ⊢
  split at h
  ·rename_i j
   exact ⟨_,by rw [if_pos j],h⟩
  ·cases h
theorem Cm {G:Type} (g:Nat→Nat→G) (sz n:Nat):((List.range n).flatMap fun j=>(List.range sz).map (g j)).length=n*sz:=by
 simp [List.length_flatMap,List.map_const']
theorem NC {k:Option IntKind} {t:TypeId} {n:Nat} {f:Nat→Nat→AV} {c:aC} (a3:vf k (P.cellsOf t) n f=some c) {fl:Bool} {u:Value} (a7:(AV.lst fl t n f).Rel P α B w D u):∃ b0,Src P D α B w c n (P.cellsOf t) u b0:=by
 obtain ⟨A,cap,rfl,b2,_,a6⟩:=a7
 have J:=Ep a3
 have j:c.len=n*P.cellsOf t:=by rw [← aC.eK,J,Cm]
 rcases a6 with rfl | ⟨b,o,cs,ty,fr,rfl,b1,a1,a2⟩
 ·refine ⟨[],by simp,j, ?_,fun _=>rfl,fun N _=>qy N⟩
  rw [J];rfl
 ·obtain ⟨l,I,O⟩:=xZ (R:=fun q y=>cs[o+q]? =some y∧(f (q / P.cellsOf t) (q % P.cellsOf t)).Rel P α B w bh y) (n*P.cellsOf t) (fun q U=>by
   have Z:0 < P.cellsOf t:=by
    rcases Nat.eq_zero_or_pos (P.cellsOf t) with G | G
    ·rw [G] at U;omega
    ·exact G
   obtain ⟨y,ab,a0⟩:=a2 (q / P.cellsOf t) (q % P.cellsOf t) ((Nat.div_lt_iff_lt_mul Z).2 U) (Nat.mod_lt _ Z)
   refine ⟨y, ?_,a0⟩
   rw [← ab]
   congr 1
   have:=Nat.div_add_mod q (P.cellsOf t)
   rw [Nat.mul_comm] at this
   omega)
  refine ⟨l,I,j,ao.nG (by rw [I,aC.eK,j]) (fun i v M=> ?_),fun _=>rfl,fun N bx=>xH I (fun bD v a4=>by rw [fB,nk a1];exact (O bD v a4).1) N bx⟩
  have a5:i < n*P.cellsOf t:=by rw [← j,← aC.eK];exact (List.getElem?_eq_some_iff.1 M).1
  rw [J,Cl f _ n i a5] at M
  cases M
  have S:i < l.length:=by omega
  exact ⟨l[i],List.getElem?_eq_getElem S,yG (O i l[i] (List.getElem?_eq_getElem S)).2⟩
theorem wL (s:ByteArray):(db s).length=s.size:=by unfold db;rw [List.length_map,Array.length_toList];rfl
theorem Sc (s:ByteArray) (j:World):(Builtin.firstCells 1 s.size (.string s)).run P j= .ok ((db s).map (Value.int .u8)).toArray j:=by
 simp only [Builtin.firstCells,Sem.run_pure]
 congr 1
 apply Array.ext'
 have:(s.extract 0 s.size)=s:=by
  rw [OQ]
  unfold dC
  obtain ⟨⟨x⟩⟩:=s
  simp [ByteArray.size]
 rw [this]
 simp [db]
theorem NY {R:Type} {H:Hp} {t:TypeId} {v:AV} {K:aC→Nat→Option R} {r:R} (h:rm P H t v K=some r):∃ c n,K c n=some r∧c.len=n*P.cellsOf t∧∀ {B0:Nat→Prop} {w0:World} {D:Nat→Prop} {α:Nat→Nat×Nat} {j:Hf} {w:World} {u:Value},(∀ m b,(m,b) ∈ tid false v→m < H.length→j m=H[m]?)→Ok P B0 w0 D α j w→v.Rel P α (Own B0 D α j) w D u→∃ b2,Src P D α (Own B0 D α j) w c n (P.cellsOf t) u b2:=by
 unfold rm at h
 simp only [Bool.cond_eq_ite] at h
 split at h
 ·refine ⟨_,_,h,by simp [aC.len],fun {B0 w0 D α j w u} O N I=> ?_⟩
  rw [show u= .slice none 0 0 from I]
  exact ⟨[],by simp,by simp [aC.len],rfl,fun _=>rfl,fun J _=>qy J⟩
 ·rename_i s
  split at h
  ·rename_i Z
   rw [beq_iff_eq] at Z
   refine ⟨_,_,h,by rw [Z,Nat.mul_one];exact wL s,fun {B0 w0 D α j w u} O N I=> ?_⟩
   rw [show u= .string s from I,Z]
   refine ⟨(db s).map (Value.int .u8), ?_, ?_, ?_,fun _=>rfl,fun J _=>Sc s J⟩
   ·rw [List.length_map,wL,Nat.mul_one]
   ·show (db s).length=_;rw [wL,Nat.mul_one]
   ·show ao P α _ w ((db s).map fun z=>AV.val (.int .u8 z)) D _
    rw [show (db s).map (fun z=>AV.val (.int .u8 z))=((db s).map (Value.int .u8)).map AV.val by rw [List.map_map];rfl]
    exact ao.vals _
  ·cases h
 ·rename_i fl b3 i off len
  split at h
  ·rename_i M
   rw [beq_iff_eq] at M
   subst M
   split at h
   ·rename_i c ty st a0
    split at h
    ·cases h
    ·rename_i bD
     split at h
     ·rename_i S
      have S:=of_decide_eq_true S
      refine ⟨_,_,h,OV c off _ S,fun {B0 w0 D α j w u} O N I=> ?_⟩
      obtain ⟨a7,cap,ch,rfl,b7,_,U⟩:=I
      have bx:=(List.getElem?_eq_some_iff.1 a0).1
      have a5:j i=some (.row c ty st):=(O i false (by simp [tid]) bx).trans a0
      obtain ⟨cs,fr,a4,b4,b5,b6,ab⟩:=kG N a7 a5 (by simpa using bD)
      have a2:=ao.len ab
      rw [aC.eK] at a2
      have a3:(((cs.toList.take c.len).drop off).take (len*P.cellsOf t)).length=len*P.cellsOf t:=by
       rw [List.length_take,List.length_drop,a2];omega
      have a6:=OV c off (len*P.cellsOf t) S
      refine ⟨((cs.toList.take c.len).drop off).take (len*P.cellsOf t),a3,a6,by rw [acX];exact ao.take (ao.drop ab _) _,fun _=>rfl,fun J b0=> ?_⟩
      by_cases b1:len=0
      ·subst b1
       rw [qy J]
       simp
      ·rcases U with U | ⟨rfl,U⟩
       ·omega
       ·refine xH a3 (fun b8 y G=> ?_) J b0
        rw [List.getElem?_take] at G
        split at G
        ·rw [List.getElem?_drop,List.getElem?_take] at G
         split at G
         ·rw [Array.getElem?_toList] at G
          rw [fB,nk a4]
          exact G
         ·cases G
        ·cases G
     ·cases h
   ·cases h
  ·cases h
 ·rename_i fl b3 n f
  split at h
  ·rename_i M
   rw [beq_iff_eq] at M
   subst M
   obtain ⟨c,a1,h⟩:=Nz h
   exact ⟨_,_,h,by rw [← aC.eK,Ep a1,Cm],fun {B0 w0 D α j w u} O N I=>NC a1 I⟩
  ·cases h
 ·cases h
end
end Go.V
namespace Go.V
open Go Go.RowKit
section
variable {P : Program}
theorem Bg {tx:TypeId} (h:mi P tx=true):(∃ e,P.underlying tx=some (.slice e))∨P.underlying tx=some .string:=by
 unfold mi at h
 split at h
 ·rename_i e j;exact .inl ⟨e,j⟩
 ·rename_i j;exact .inr j
 ·cases h
theorem QT {ts tx ty e:TypeId} {i:TypeInfo} (N:P.underlying ts=some (.slice e)) (J:P.info? e=some i) (j:mi P tx=true) {A:Option Addr} {m c:Nat} {u:Value} {w:World} (M:(Builtin.lenOf u).run P w= .ok 0 w) (I:(Builtin.firstCells i.size 0 u).run P w= .ok #[] w) (G:m≤c):
  (Builtin.append_ #[ts,tx] ty #[.slice A m c,u]).run P w= .ok (.slice A m c) w:=by
 rcases Bg j with ⟨O,j⟩ | j <;> cases A <;> simp [Builtin.append_,run_underlying N,run_underlying j,sizeOf,typeInfo,J,M,I,G,storeCells,Sem.run_pure]
theorem QU {ts tx ty e:TypeId} {i:TypeInfo} (S:P.underlying ts=some (.slice e)) (M:P.info? e=some i) (j:mi P tx=true) {a:Addr} {m c n:Nat} {u:Value} {G:List Value} {w w':World} (N:(Builtin.lenOf u).run P w= .ok n w) (J:(Builtin.firstCells i.size n u).run P w= .ok G.toArray w) (I:m+n≤c)
  (O:(storeCells (a.add (m*i.size)) G).run P w= .ok () w'):
  (Builtin.append_ #[ts,tx] ty #[.slice (some a) m c,u]).run P w= .ok (.slice (some a) (m+n) c) w':=by
 rcases Bg j with ⟨U,j⟩ | j <;> simp [Builtin.append_,run_underlying S,run_underlying j,sizeOf,typeInfo,M,N,J,I,O,Sem.run_pure]
theorem Jl {ts tx ty e:TypeId} {i:TypeInfo} {z:Value} (a1:P.underlying ts=some (.slice e)) (U:P.info? e=some i) (a2:i.zero=some z) (j:mi P tx=true) {A:Option Addr} {m c n:Nat} {u:Value} {I G:List Value} {w:World} (Z:(Builtin.lenOf u).run P w= .ok n w) (N:(Builtin.firstCells i.size n u).run P w.drew= .ok G.toArray w.drew)
  (a0:(Builtin.firstCells i.size m (.slice A m c)).run P w.drew= .ok I.toArray w.drew) (S:c < m+n) (a5:m+n≤9223372036854775807) (O:(m+n)*i.bytes≤140737488355328):
  (Builtin.append_ #[ts,tx] ty #[.slice A m c,u]).run P w= .ok (.slice (some ⟨w.heap.size,0,none⟩) (m+n) (grownCap w (m+n) c e)) (w.drew.alloc (.cells (I.toArray ++ G.toArray ++ Builtin.zeroCells z.cells (grownCap w (m+n) c e - (m+n))) e)):=by
 have ab:¬ (m+n≤c):=by omega
 have M:¬ (9223372036854775807 < ((m:Int)+(n:Int))):=by omega
 have a4:=growslice_fits S O
 have J:¬ (281474976710656 < Builtin.nextslicecap (m+n) c*i.bytes):=by omega
 rcases Bg j with ⟨a3,j⟩ | j <;>
 ·simp [Builtin.append_,run_underlying a1,run_underlying j,sizeOf,typeInfo,zeroValue,U,a2,Z,ab,M,J,Question.forced,N,a0,newRow,grownCap]
  try (congr 2;apply Array.ext';simp [List.append_assoc])
end
end Go.V
namespace Go.V
open Go Go.RowKit
section
variable {R : Type} {P : Program} {ro : Option Nat} {T : List AV} {o : Oper} {H : Hp} {lo : Nat} {k : Kn R} {r : R}
theorem rT {e:TypeId} {l:List AV} (h:zeroCells P e=some l):∃ i z,P.info? e=some i∧i.zero=some z∧l=z.cells.toList.map .val∧P.cellsOf e=i.size∧P.bytesOf e=i.bytes:=by
 unfold zeroCells at h
 split at h
 ·rename_i z j
  cases h
  simp only [zeroValue,typeInfo,bind,Sem.bind,mN,program] at j
  cases G:P.info? e with
  | none=>rw [G] at j;cases j
  | some i=>
   rw [G] at j
   simp only [pure,Sem.bind] at j
   cases I:i.zero with
   | none=>rw [I] at j;cases j
   | some J=>
    rw [I] at j
    simp only [mN,Option.some.injEq] at j
    subst j
    exact ⟨i,J,rfl,I,rfl,by simp [Program.cellsOf,G],by simp [Program.bytesOf,G]⟩
 ·cases h
theorem zH {e:TypeId} (h:pR P e=true):∃ i z,P.info? e=some i∧i.zero=some z∧z.cells.size=P.cellsOf e∧P.cellsOf e=i.size∧P.bytesOf e=i.bytes:=by
 unfold pR at h
 split at h
 ·rename_i l M
  obtain ⟨i,z,j,G,rfl,I,J⟩:=rT M
  rw [beq_iff_eq,List.length_map,Array.length_toList] at h
  exact ⟨i,z,j,G,h,I,J⟩
 ·cases h
theorem vg {c:Call} {s x:Operand} {ts tx:TypeId} (O:o.op= .call c) (G:c.callee= .builtin .append) (j:c.args.toList= [s,x]) (I:c.argTypes.toList= [ts,tx]) {a:Act} {w w':World} {v:Value} (S:∀ ty,(Builtin.append_ #[ts,tx] ty #[a.eval s,a.eval x]).run P w= .ok v w'):(execOp a.eval o).run P w= .ok (.value v) w':=by
 obtain ⟨Z,J,M⟩:=c
 simp only at G j I
 subst G
 have N:J= #[s,x]:=Array.ext' j
 have U:M= #[ts,tx]:=Array.ext' I
 subst N U
 unfold execOp
 rw [O]
 simp [resolve,invoke,builtin,S,Result.andThen]
theorem Ed {n e:Nat} (h:cA P n e=true):n*P.bytesOf e≤140737488355328∧n≤9223372036854775807:=by
 unfold cA at h
 rw [Bool.and_eq_true,decide_eq_true_eq,decide_eq_true_eq] at h
 exact h
theorem QP {c:aC} (h:c.oi=true) {D:Nat→Prop} {α:Nat→Nat×Nat} {B:Nat→Prop} {w:World} {j:List Value} (G:ao P α B w c.a9 D j):∀ y ∈ j,y.oneCell'=true:=by
 cases c with
 | cells l=>exact ao.one h G
 | ints J zs=>
  have:j=zs.map (.int J):=ao.yb (l:=zs.map (.int J)) (by rw [List.map_map];exact G)
  subst this
  intro y I
  obtain ⟨z,_,rfl⟩:=List.mem_map.1 I
  rfl
 | vals vs=>
  have:j=vs:=ao.yb G
  subst this
  exact fun y I=>List.all_eq_true.1 h y I
theorem O1 {j:Type} (a b c:List j) {m:Nat} (h:m=a.length+b.length):(a ++ b ++ c).take m=a ++ b:=by
 rw [h,← List.length_append];exact List.take_left
theorem KO {D:Nat→Prop} {α:Nat→Nat×Nat} {B:Nat→Prop} {w:World} {c:aC} {e:TypeId} {b m n cap sz:Nat} {G j:List Value} {z:Value} (U:w.heap[b]? =some (.cells (G.toArray ++ j.toArray ++ Builtin.zeroCells z.cells (cap - (m+n))) e)) (M:G.length=m*sz) (J:j.length=n*sz) (I:c.len=(m+n)*sz) (Z:z.cells.size=sz) (N:m+n≤cap)
  (O:ao P α B w c.a9 D (G ++ j)):cM P α B w D (.row c e .live) (b,cap*sz):=by
 have S:(G.toArray ++ j.toArray ++ Builtin.zeroCells z.cells (cap - (m+n))).size=cap*sz:=by
  simp only [Array.size_append,List.size_toArray,size_zeroCells,Z,M,J]
  rw [← Nat.add_mul,← Nat.add_mul];congr 1;omega
 refine .inr ⟨_,_,U,S,fun _ i _=>by simp, ?_, ?_⟩
 ·rw [I];exact Nat.mul_le_mul_right _ N
 ·have:(G.toArray ++ j.toArray ++ Builtin.zeroCells z.cells (cap - (m+n))).toList.take c.len=G ++ j:=by
   rw [Array.toList_append,Array.toList_append]
   exact O1 _ _ _ (by rw [I,M,J,Nat.add_mul])
  rw [this]
  exact O
section
variable {c : Call} {s x : Operand} {ts tx e : TypeId}
theorem E2 (M:o.op= .call c) (bD:c.callee= .builtin .append) (O:c.args.toList= [s,x]) (c1:c.argTypes.toList= [ts,tx]) (c2:P.underlying ts=some (.slice e)) (b5:mi P tx=true) (c7:pR P e=true) {c' cx:aC} {m n:Nat} (ch:cA P (m+n) e=true) (eh:n≠0)
  (b2:k (.sl false e H.length 0 (m+n)) (H ++ [.row c' e .live])=some r) (c5:∀ {B0:Nat→Prop} {w0:World} {D:Nat→Prop} {α:Nat→Nat×Nat} {G:Hf} {w:World} {u:Value},(∀ m b,(m,b) ∈ tid false (aA T x)→m < H.length→G m=H[m]?)→Ok P B0 w0 D α G w→(aA T x).Rel P α (Own B0 D α G) w D u→∃ S,Src P D α (Own B0 D α G) w cx n (P.cellsOf e) u S)
  (b3:c'.len=(m+n)*P.cellsOf e) (c4:∀ I,(I,true) ∈ tid true (aA T s)→I < H.length)
  (ct:∀ {B0:Nat→Prop} {w0:World} {D:Nat→Prop} {α:Nat→Nat×Nat} {G:Hf} {w:World} {u:Value},(∀ m b,(m,b) ∈ tid true (aA T s)→m < H.length→G m=H[m]?)→Ok P B0 w0 D α G w→(aA T s).Rel P α (Own B0 D α G) w D u→∃ A cap J a9,u= .slice A m cap∧cap=m∧J.length=m*P.cellsOf e∧c'.a9=a9 ++ cx.a9∧ao P α (Own B0 D α G) w a9 D J∧∀ U,U.heap=w.heap→(Builtin.firstCells (P.cellsOf e) m u).run P U= .ok J.toArray U):
  bf P ro T o H (.some false (tid true (aA T s) ++ tid false (aA T x))) lo k r:=by
 have eb:∀ c,o.op≠ .defer c:=fun c h=>by rw [M] at h;cases h
 obtain ⟨i,z,b1,dx,c8,a4,bx⟩:=zH c7
 obtain ⟨b6,b7⟩:=Ed ch
 have ms:s ∈ c.args:=Array.mem_toList_iff.1 (by rw [O];simp)
 have dy:x ∈ c.args:=Array.mem_toList_iff.1 (by rw [O];simp)
 refine ⟨_,_,b2,fun ed I j=>List.getElem?_append_left (by omega),fun B0 w0=>Cz (fun I j=> ?_) eb rfl (fun h D α a w a2 Z ab=> ?_)⟩
 ·rcases List.mem_append.1 j with j | j
  ·exact c4 I j
  ·exact absurd j (fy _ _)
 ·have c0:=ab s (by rw [M];simp only [Op.operands,Call.operands,Array.mem_append];exact .inr ms)
  have c6:=ab x (by rw [M];simp only [Op.operands,Call.operands,Array.mem_append];exact .inr dy)
  obtain ⟨A,cap,J,a9,a0,ec,b4,a7,b8,b0⟩:=ct (fun I b j=>a2 I b (List.mem_append_left _ j)) Z c0
  obtain ⟨S,N⟩:=c5 (fun I b j=>a2 I b (List.mem_append_right _ j)) Z c6
  have a1:=grownCap_ge w (m+n) cap e
  refine ⟨w.drew, .cells (J.toArray ++ S.toArray ++ Builtin.zeroCells z.cells (grownCap w (m+n) cap e - (m+n))) e,grownCap w (m+n) cap e*P.cellsOf e, .slice (some ⟨w.heap.size,0,none⟩) (m+n) (grownCap w (m+n) cap e),wD w,fun ds=>by simp,vg M bD O c1 (fun ty=> ?_),fun D' α' B' w' a3 c3=> ?_,fun D' α' B' w' a6 a5=> ?_⟩
  ·rw [a0]
   exact Jl c2 b1 dx b5 (N.lenOf w) (by rw [← a4];exact N.cells _ rfl) (by rw [← a4,← a0];exact b0 _ rfl) (by omega) b7 (by rw [← bx];exact b6)
  ·exact KO c3 b4 N.len b3 c8 a1 (by rw [a7];exact ao.append (ao.mono _ _ a3 b8) (ao.mono _ _ a3 N.rel))
  ·exact ⟨a6,_,0,by rw [a5];rfl,a1,(fun h=>by cases h), .inr ⟨rfl,by rw [a5,Nat.zero_add];exact Nat.le_refl _⟩⟩
theorem E3 (J:o.op= .call c) (ab:c.callee= .builtin .append) (M:c.args.toList= [s,x]) (bD:c.argTypes.toList= [ts,tx]) (b0:P.underlying ts=some (.slice e)) (a6:mi P tx=true) (b4:pR P e=true) {cx:aC} (a4:k (aA T s) H=some r)
  (b2:∀ {B0:Nat→Prop} {w0:World} {D:Nat→Prop} {α:Nat→Nat×Nat} {I:Hf} {w:World} {u:Value},(∀ m b,(m,b) ∈ tid false (aA T x)→m < H.length→I m=H[m]?)→Ok P B0 w0 D α I w→(aA T x).Rel P α (Own B0 D α I) w D u→∃ O,Src P D α (Own B0 D α I) w cx 0 (P.cellsOf e) u O)
  (b1:∀ G,(G,true) ∈ tid true (aA T s)→G < H.length)
  (a7:∀ {D:Nat→Prop} {α:Nat→Nat×Nat} {B:Nat→Prop} {w:World} {u:Value},(aA T s).Rel P α B w D u→∃ A m cap,u= .slice A m cap∧m≤cap):
  bf P ro T o H (.some false (tid true (aA T s) ++ tid false (aA T x))) lo k r:=by
 have b6:∀ c,o.op≠ .defer c:=fun c h=>by rw [J] at h;cases h
 obtain ⟨i,z,a3,ch,b8,bx,b7⟩:=zH b4
 have ms:s ∈ c.args:=Array.mem_toList_iff.1 (by rw [M];simp)
 have b5:x ∈ c.args:=Array.mem_toList_iff.1 (by rw [M];simp)
 refine ⟨_,H,a4,fun _ _ _=>rfl,fun B0 w0=>KT (fun G j=> ?_) b6 (fun h D α a w a2 Z S=> ?_)⟩
 ·rcases List.mem_append.1 j with j | j
  ·exact b1 G j
  ·exact absurd j (fy _ _)
 ·have U:=S s (by rw [J];simp only [Op.operands,Call.operands,Array.mem_append];exact .inr ms)
  have b3:=S x (by rw [J];simp only [Op.operands,Call.operands,Array.mem_append];exact .inr b5)
  obtain ⟨O,N⟩:=b2 (fun G b j=>a2 G b (List.mem_append_right _ j)) Z b3
  obtain ⟨A,m,cap,a1,a0⟩:=a7 U
  refine ⟨a.eval s,vg J ab M bD (fun ty=> ?_),U⟩
  have a5:O= []:=List.eq_nil_of_length_eq_zero (by rw [N.len,Nat.zero_mul])
  rw [a1]
  exact QT b0 a3 a6 (N.lenOf w) (by rw [← bx];have:=N.cells w rfl;rw [a5] at this;exact this) a0
theorem ack (j:o.op= .call c) (a4:c.callee= .builtin .append) (J:c.args.toList= [s,x]) (b0:c.argTypes.toList= [ts,tx]) (hint:xP P tx=true) (h:Cw P H ts (aA T s) (aA T x) k=some r):
  bf P ro T o H (.some false (tid true (aA T s) ++ tid false (aA T x))) lo k r:=by
 have ch:∀ c,o.op≠ .defer c:=fun c h=>by rw [j] at h;cases h
 unfold Cw at h
 split at h
 ·rename_i e a0 n bD U Z
  have b2:=vo bD
  simp only [Bool.cond_eq_ite] at h
  split at h
  ·rename_i O
   rw [Bool.and_eq_true,Bool.and_eq_true,Bool.and_eq_true,decide_eq_true_eq,decide_eq_true_eq] at O
   obtain ⟨⟨⟨c4,bx⟩,b4⟩,c0⟩:=O
   obtain ⟨kn,b1⟩:∃ kn,P.underlying tx=some (.int kn):=by
    unfold xP at hint
    split at hint
    ·rename_i kn a7;exact ⟨kn,a7⟩
    ·cases hint
   obtain ⟨i,z,a6,b6,b5,c7,a3⟩:=zH b4
   obtain ⟨c5,c6⟩:=Ed bx
   have ms:s ∈ c.args:=Array.mem_toList_iff.1 (by rw [J];simp)
   have b8:x ∈ c.args:=Array.mem_toList_iff.1 (by rw [J];simp)
   refine ⟨_,_,h,fun c3 b7 M=>List.getElem?_append_left (by omega),fun B0 w0=>Cz (fun b7 M=> ?_) ch rfl (fun h D α a w c1 ct N=> ?_)⟩
   ·rw [U,Z] at M;simp [tid] at M
   ·have G:=N s (by rw [j];simp only [Op.operands,Call.operands,Array.mem_append];exact .inr ms)
    have I:=N x (by rw [j];simp only [Op.operands,Call.operands,Array.mem_append];exact .inr b8)
    rw [U] at G
    rw [Z] at I
    have G:a.eval s= .slice none 0 0:=G
    have I:a.eval x= .int a0 n:=I
    have a5:=grownCap_ge w n.toNat 0 e
    have a1:((n.toNat:Nat):Int)=n:=Int.toNat_of_nonneg (by omega)
    refine ⟨w.drew, .cells (Builtin.zeroCells z.cells n.toNat ++ Builtin.zeroCells z.cells (grownCap w n.toNat 0 e - n.toNat)) e,grownCap w n.toNat 0 e*P.cellsOf e, .slice (some ⟨w.heap.size,0,none⟩) n.toNat (grownCap w n.toNat 0 e),wD w,fun ds=>by simp,vg j a4 J b0 (fun ty=> ?_),fun D' α' B' w' c2 b3=> ?_,fun D' α' B' w' a2 ab=> ?_⟩
    ·rw [G,I]
     have S:=Lib.run_append_nil_zeros w ts tx ty e i z a0 kn b2 b1 a6 b6 n.toNat (by omega) (by omega) (by omega) (by rw [← a3];omega)
     rw [a1] at S
     exact S
    ·refine .inr ⟨_,_,b3, ?_,fun _ i _=>by simp,Nat.zero_le _, ?_⟩
     ·simp only [Array.size_append,size_zeroCells,b5]
      rw [← Nat.add_mul];congr 1;omega
     ·show ao P _ _ _ [] _ (List.take 0 _)
      rw [List.take_zero]
      exact ao.vals []
    ·exact ⟨a2,_,0,by rw [ab];rfl,a5,(fun h=>by cases h), .inr ⟨rfl,by rw [ab,Nat.zero_add];exact Nat.le_refl _⟩⟩
  ·cases h
 ·cases h
end
end
end Go.V
namespace Go.V
open Go Go.RowKit
section
variable {R : Type} {P : Program} {ro : Option Nat} {T : List AV} {o : Oper} {H : Hp} {lo : Nat} {k : Kn R} {r : R}
variable {c : Call} {s x : Operand} {ts tx e : TypeId}
theorem ab3 (ab:o.op= .call c) (ed:c.callee= .builtin .append) (a5:c.args.toList= [s,x]) (e2:c.argTypes.toList= [ts,tx]) (e3:P.underlying ts=some (.slice e)) (eN:mi P tx=true) (hy:pR P e=true) {j c' cx:aC} {i len n:Nat} {fl:Bool} (hi:cA P (len+n) e=true)
  (e0:aA T s= .sl fl e i 0 len) (c8:H[i]? =some (.row j e .live)) (hI:¬ i < lo) (ey:len*P.cellsOf e≤j.len) (hf:cx.oi=true) (g2:j.app (intKind P e) (len*P.cellsOf e) cx=some c')
  (g8:k (.sl false e H.length 0 (len+n)) (H.set i (.row j e .dead) ++ [.row c' e .live])=some r) (hv:∀ {B0:Nat→Prop} {w0:World} {D:Nat→Prop} {α:Nat→Nat×Nat} {a6:Hf} {w:World} {u:Value},(∀ m b,(m,b) ∈ tid false (aA T x)→m < H.length→a6 m=H[m]?)→Ok P B0 w0 D α a6 w→(aA T x).Rel P α (Own B0 D α a6) w D u→∃ O,Src P D α (Own B0 D α a6) w cx n (P.cellsOf e) u O):
  bf P ro T o H (.some false (tid true (aA T s) ++ tid false (aA T x))) lo k r:=by
 have e6:∀ c,o.op≠ .defer c:=fun c h=>by rw [ab] at h;cases h
 obtain ⟨ti,z,et,hA,hz,bD,g3⟩:=zH hy
 obtain ⟨hg,hh⟩:=Ed hi
 have ms:s ∈ c.args:=Array.mem_toList_iff.1 (by rw [a5];simp)
 have hB:x ∈ c.args:=Array.mem_toList_iff.1 (by rw [a5];simp)
 have c1:i < H.length:=(List.getElem?_eq_some_iff.1 c8).1
 obtain ⟨ec,b6⟩:=wB g2 ey
 have bx:∀ m,(m,true) ∈ (tid true (aA T s) ++ tid false (aA T x))↔m=i:=by
  intro m
  rw [List.mem_append,e0]
  constructor
  ·rintro (h | h)
   ·simpa [tid] using h
   ·exact absurd h (fy _ _)
  ·rintro rfl;left;simp [tid]
 refine ⟨_,_,g8,fun hG m N=> ?_,fun B0 w0=> ⟨by simp,fun m N ha=> ?_,fun h ep ro D α a w K Q a3 hc eb dx=> ?_⟩⟩
 ·rw [List.getElem?_append_left (by rw [List.length_set];omega),List.getElem?_set_ne (by omega)]
 ·rw [List.getElem?_append_left (by rw [List.length_set];exact N),List.getElem?_set_ne]
  rintro rfl
  exact ha ((bx i).2 rfl)
 ·have a1:cg h H (H.set i (.row j e .dead) ++ [.row c' e .live]) (tid true (aA T s) ++ tid false (aA T x))=bd (bd h i (some (.row j e .dead))) H.length (some (.row c' e .live)):=by
   funext m
   unfold cg bd
   by_cases N:m=H.length
   ·subst N
    rw [if_pos (.inr ⟨Nat.le_refl _,by simp⟩),if_pos rfl]
    simp
   ·rw [if_neg N]
    by_cases c2:m=i
    ·subst c2
     rw [if_pos (.inl ((bx m).2 rfl)),if_pos rfl,List.getElem?_append_left (by rw [List.length_set];exact c1),List.getElem?_set_self c1]
    ·rw [if_neg c2,if_neg]
     rintro (c7 | ⟨c7,g1⟩)
     ·exact c2 ((bx m).1 c7)
     ·simp at g1;omega
  have ez:¬ D H.length:=hc.1 _ (Nat.le_refl _) (.inl (by simp))
  have b4:h i=some (.row j e .live):=(ep i ⟨true,(bx i).2 rfl⟩ c1).trans c8
  have e1:=eb s (by rw [ab];simp only [Op.operands,Call.operands,Array.mem_append];exact .inr ms)
  have hx:=eb x (by rw [ab];simp only [Op.operands,Call.operands,Array.mem_append];exact .inr hB)
  obtain ⟨O,J⟩:=hv (fun m b N=>ep m ⟨b,List.mem_append_right _ N⟩) a3 hx
  rw [e0] at e1
  obtain ⟨a2,cap,b0,b8,hE,_,I⟩:=e1
  obtain ⟨cs,fr,b1,e7,c4,hD,b2⟩:=kG a3 a2 b4 rfl
  have b7:=J.St
  have c3:=J.len
  have hk:(len+n)*P.cellsOf e=len*P.cellsOf e+n*P.cellsOf e:=Nat.add_mul _ _ _
  have g5:=ao.len b2
  rw [List.length_take,Array.length_toList,aC.eK] at g5
  by_cases ch:len+n≤cap
  ·-- in place
   have hF:(len+n)*P.cellsOf e≤cap*P.cellsOf e:=Nat.mul_le_mul_right _ ch
   have c6:∀ (w':World) (M:Array Value),(storeCells ((⟨(α i).1,b0,none⟩:Addr).add (len*P.cellsOf e)) O).run P w= .ok () w'→w'.heap[(α i).1]? =some (.cells M e fr)→M.size=cs.size→M.toList.take c'.len=cs.toList.take (len*P.cellsOf e) ++ O→(∀ k,k≠(α i).1→w'.heap[k]? =w.heap[k]?)→(∀ B,B≤(α i).1→Below B w w')→w'.heap.size=w.heap.size→(cap=0∨b0=0∧cap*P.cellsOf e≤(α i).2)→(len+n)*P.cellsOf e≤(α i).2→o.wpIn (W ro) 0 P a w K Q:=by
    intro w' M hj ho e4 hq hr hs ht a0 hH
    obtain ⟨b5,ct⟩:=C5 (w':=w') a3 a2 (k1:= .row c' e .live) b4 rfl rfl ht hr hs (fun U=> .inr ⟨M,fr,ho,by omega,c4,by omega,by
     rw [hq,ec]
     have fa:cs.toList.take (len*P.cellsOf e)=(cs.toList.take j.len).take (len*P.cellsOf e):=by rw [List.take_take,Nat.min_eq_left ey]
     rw [fa]
     exact ao.append (ao.take (ao.mono _ _ U b2) _) (ao.mono _ _ U J.rel)⟩)
    obtain ⟨a4,a7⟩:=Y5 b5 a2 ez (c':=j) (cG _ _ _)
    have b3:bd (bd (bd h i (some (.row c' e .live))) i (some (.row j e .dead))) H.length (some (.row c' e .live))=bd (bd h i (some (.row j e .dead))) H.length (some (.row c' e .live)):=by
     funext m
     unfold bd
     split
     ·rfl
     ·split <;> rfl
    rw [b3] at a4 a7
    refine rS e6 (vg ab ed a5 e2 (v:= .slice (some ⟨(α i).1,b0,none⟩) (len+n) cap) (w':=w') (fun ty=> ?_)) (dx _ _ w' _ (by rw [a1];exact a4) ?_ (by rw [a1];exact ct.trans a7) ?_)
    ·rw [b8]
     exact QU e3 et eN (J.lenOf w) (by rw [← bD];exact J.cells w rfl) ch (by rw [← bD];exact hj)
    ·rintro e5 (G | rfl)
     ·exact .inl G
     ·exact .inr ⟨Nat.le_refl _,by simp⟩
    ·refine ⟨.inr rfl,cap,b0,by rw [eH],ch,(fun h=>by cases h), ?_⟩
     rw [eH,Nat.zero_add]
     rcases a0 with a0 | a0
     ·exact .inl a0
     ·exact .inr a0
   rcases I with I | ⟨rfl,I⟩
   ·-- the slice has no room at all:nothing is appended to nothing
    have c0:len=0:=by omega
    have hb:n=0:=by omega
    subst c0 hb
    have hd:O= []:=List.eq_nil_of_length_eq_zero (by rw [c3,Nat.zero_mul])
    subst hd
    have g4:c'.len=0:=by rw [b6,b7,Nat.zero_mul]
    exact c6 w cs rfl b1 rfl (by rw [g4,Nat.zero_mul];rfl) (fun _ _=>rfl) (fun B _=>Below.refl B w) rfl (.inl I) (by rw [Nat.zero_mul];exact Nat.zero_le _)
   ·rw [Nat.zero_add] at I
    obtain ⟨w',M,fc,fh,c5,fs,fv,gf⟩:=Ev (P:=P) (α i).1 (len*P.cellsOf e) e fr O 0 w cs b1 (by omega) (by rw [e7];exact c4 rfl) (QP hf J.rel)
    have hl:M.size=cs.size:=by
     have:=congrArg List.length c5
     simp only [Array.length_toList,List.length_append,List.length_take,List.length_drop] at this
     omega
    refine c6 w' M (by rw [fB,Nat.zero_add];exact fc) fh hl ?_ fs fv gf (.inr ⟨rfl,I⟩) (by omega)
    rw [c5,Nat.add_zero]
    exact O1 _ _ _ (by rw [List.length_take,Array.length_toList,b6,b7,c3,Nat.min_eq_left (by omega)])
  ·-- a new array
   have eo:=grownCap_ge w (len+n) cap e
   have ev:((cs.toList.take j.len).take (len*P.cellsOf e)).length=len*P.cellsOf e:=by
    rw [List.length_take,List.length_take,Array.length_toList];omega
   have g6:∀ Z,Z.heap=w.heap→(Builtin.firstCells (P.cellsOf e) len (a.eval s)).run P Z= .ok ((cs.toList.take j.len).take (len*P.cellsOf e)).toArray Z:=by
    intro Z e4
    rw [b8]
    by_cases c0:len=0
    ·subst c0
     rw [qy Z]
     simp
    ·rcases I with I | ⟨rfl,I⟩
     ·omega
     ·refine xH ev (fun e5 y G=> ?_) Z e4
      rw [List.getElem?_take] at G
      split at G
      ·rw [List.getElem?_take] at G
       split at G
       ·rw [Array.getElem?_toList] at G
        rw [fB,nk b1,Nat.zero_add]
        exact G
       ·cases G
      ·cases G
   obtain ⟨b5,ct⟩:=oT a3 (wD w)
   obtain ⟨a4,a7⟩:=C4 b5 ez (o:= .cells (((cs.toList.take j.len).take (len*P.cellsOf e)).toArray ++ O.toArray ++ Builtin.zeroCells z.cells (grownCap w (len+n) cap e - (len+n))) e) (fun ds=>by simp) (k:= .row c' e .live) rfl (sz:=grownCap w (len+n) cap e*P.cellsOf e) (fun D' α' B' w' U hn=>by
    have eu:eJ D D' α α' (Own B0 D α h) B' w w':= ⟨U.le,U.same,fun b cs ty fr S gn=>U.row b cs ty fr S gn⟩
    exact KO hn ev c3 (by rw [b6,b7,hk]) hz eo (by rw [ec];exact ao.append (ao.take (ao.mono _ _ eu b2) _) (ao.mono _ _ eu J.rel)))
   have g7:i≠H.length:=by omega
   obtain ⟨dy,en⟩:=LQ a4 (i:=i) (.inl a2) (c':=j) (st:= .dead) (by rw [bK _ _ g7];exact b4) (.inl rfl)
   have b3:bd (bd h H.length (some (.row c' e .live))) i (some (.row j e .dead))=bd (bd h i (some (.row j e .dead))) H.length (some (.row c' e .live)):=by
    funext m
    unfold bd
    by_cases S:m=i
    ·rw [if_pos S,if_neg (by omega),if_pos S]
    ·rw [if_neg S,if_neg S]
   rw [b3] at dy en
   refine rS e6 (vg ab ed a5 e2 (v:= .slice (some ⟨w.heap.size,0,none⟩) (len+n) (grownCap w (len+n) cap e)) (fun ty=> ?_)) (dx _ _ _ _ (by rw [a1];exact dy) ?_ (by rw [a1];exact (ct.trans a7).trans en) ?_)
   ·have eh:=g6 w.drew rfl
    rw [b8] at eh ⊢
    exact Jl e3 et hA eN (J.lenOf w) (by rw [← bD];exact J.cells _ rfl) (by rw [← bD];exact eh) (by omega) hh (by rw [← g3];exact hg)
   ·rintro e5 (G | rfl)
    ·exact .inl G
    ·exact .inr ⟨Nat.le_refl _,by simp⟩
   ·exact ⟨.inr rfl,_,0,by rw [eH];rfl,eo,(fun h=>by cases h), .inr ⟨rfl,by rw [eH,Nat.zero_add];exact Nat.le_refl _⟩⟩
end
end Go.V
