import Derived.Test.YtamcpiicmfielaaGreatZV2
import Derived.Shelf.SlSortCmp.NoneTotal
import Derived.Test.YtamcpiicmfielaaGreatZQA
import Derived.Test.YtamcpiicmfielaaGreatZHX
import Derived.Test.YtamcpiicmfielaaGreatZHZ
set_option linter.unusedVariables false
set_option linter.unusedSimpArgs false
namespace Go.V
open Go Go.RowKit
section
variable {P : Program}
theorem aho {D:Nat→Prop} {α:Nat→Nat×Nat} {B:Nat→Prop} {w:World} {us G:List Value} (h:aj P α B w (us.map .val) D G):G=us:=by
 have:=aj.xt (P:=P) (List.all_eq_true.2 fun x I=>by obtain ⟨v,_,rfl⟩:=List.mem_map.1 I;rfl) h
 rw [this,List.map_map]
 exact List.map_id _
theorem KH {D D':Nat→Prop} {α α':Nat→Nat×Nat} {B B':Nat→Prop} {w:World} {us:List Value} {ty:TypeId} {a:Nat×Nat} (h:cP P α B w D (.row (.vals us) ty .live) a):cP P α' B' w D' (.row (.vals us) ty .live) a:=by
 rcases h with h | ⟨cs,fr,I,J,M,O,G⟩
 ·cases h
 ·have G:aj P α B w (us.map .val) D _:=G
  refine .inr ⟨cs,fr,I,J,M,O, ?_⟩
  rw [aho G]
  exact aj.vals _
theorem Uz {g:FuncId} {b5 args:List AV} {us U:List Value} {ty:TypeId} {dx v:AV} {rest:Hp} (eh:dg P g b5 [.row (.vals us) ty .live] dx (.row (.vals U) ty .live :: rest))
  {H:Hp} {i:Nat} (c0:H[i]? =some (.row (.vals us) ty .live))
  (ea:∀ (D:Nat→Prop) (α:Nat→Nat×Nat) (B:Nat→Prop) (w:World) (dy:List Value),aj P α B w args D dy→D i∧aj P (fun _=>α i) B w b5 (fun j=>j=0) dy)
  (ec:∀ (D D':Nat→Prop) (α α':Nat→Nat×Nat) (B B':Nat→Prop) (w:World) (y:Value),dx.Rel P α' B' w D' y→D i→α' 0=α i→v.Rel P α B w D y):
  dg P g args H v (H.set i (.row (.vals U) ty .live)):=by
 intro B0 w0 D α w ez M ed
 obtain ⟨hi,eN⟩:=ea D α _ w _ ed
 have e2:=(List.getElem?_eq_some_iff.1 c0).1
 have a6:(H[·]?) i=some (.row (.vals us) ty .live):=c0
 have b0:aP D α (H[·]?) (α i).1:= ⟨i,_,hi,a6,rfl,rfl⟩
 have ch:∀ b,aP (fun j=>j=0) (fun _=>α i) (([.row (.vals us) ty .live]:Hp)[·]?) b↔b=(α i).1:=fun b=> ⟨fun ⟨j,k,I,G,ab,Z⟩=>Z.symm,fun h=> ⟨0,_,rfl,rfl,rfl,h.symm⟩⟩
 obtain ⟨B1,b7⟩:∃ B1:Nat→Prop,B1=fun b=>B0 b∨(aP D α (H[·]?) b∧b≠(α i).1):= ⟨_,rfl⟩
 have eL:Own B1 (fun j=>j=0) (fun _=>α i) (([.row (.vals us) ty .live]:Hp)[·]?)=Own B0 D α (H[·]?):=by
  funext b
  apply propext
  unfold Own
  grind
 have ep:Ok P B1 w0 (fun j=>j=0) (fun _=>α i) (([.row (.vals us) ty .live]:Hp)[·]?) w:=by
  refine ⟨fun j J=> ?_,M.below,fun b hb=> ?_,fun b hb c3=> ?_,fun j J=>M.fresh i hi,fun a b k l ha hb _ _ _ _ _=>ha.trans hb.symm,fun j k J O bx=> ?_,fun j k J O=> ?_⟩
  ·grind
  ·rw [b7] at hb
   rcases hb with hb | ⟨⟨j,k,I,G,ab,rfl⟩,_⟩
   ·exact M.cO b hb
   ·refine ⟨(M.fresh j I).2,fun ds eR=> ?_⟩
    have c6:=M.cM j k I G
    cases k with
    | row c t st=>
     rcases c6 with rfl | ⟨cs,fr,e,_⟩
     ·cases ab
     grind
    | loop r=>
     obtain ⟨L,e,_⟩:=c6
     grind
  ·rw [ch] at c3
   rw [b7] at hb
   subst c3
   rcases hb with hb | hb
   ·exact M.sep _ hb b0
   grind
  ·subst J;cases O;cases bx
  ·subst J;cases O
   exact KH (M.cM i _ hi a6)
 have eg:=eh B1 w0 (fun j=>j=0) (fun _=>α i) w ez ep (by grind)
 refine eg.mono ?_
 rintro e w' ⟨y,D',α',rfl,a7,_,bD,et⟩
 have ct:D' 0:=bD.le 0 rfl
 have b4:α' 0=α i:=bD.same 0 rfl
 have b1:∀ b o,w.heap[b]? =some o→b≠(α i).1→w'.heap[b]? =some o:=fun b o I G=>(bD.block b o I (fun h=>G ((ch b).1 h))).2
 have aE:∀ j,(H.set i (.row (.vals U) ty .live))[j]? =if j=i then some (.row (.vals U) ty .live) else H[j]? :=fun j=>by
  grind
 have c5:aP D α ((H.set i (.row (.vals U) ty .live))[·]?)=aP D α (H[·]?):=by
  funext b
  apply propext
  constructor
  ·rintro ⟨j,k,I,G,ab,Z⟩
   have G:(H.set i (.row (.vals U) ty .live))[j]? =some k:=G
   rw [aE] at G
   split at G
   ·grind
   ·exact ⟨j,k,I,G,ab,Z⟩
  ·rintro ⟨j,k,I,G,ab,Z⟩
   by_cases J:j=i
   ·subst J;exact ⟨j,_,I,(aE j).trans (if_pos rfl),rfl,Z⟩
   ·exact ⟨j,k,I,(aE j).trans ((if_neg J).trans G),ab,Z⟩
 have eb:Own B0 D α ((H.set i (.row (.vals U) ty .live))[·]?)=Own B0 D α (H[·]?):=by unfold Own;rw [c5]
 have c4:bG D D α α (aP D α (H[·]?)) (aP D α ((H.set i (.row (.vals U) ty .live))[·]?)) w w':=
  ⟨fun _ h=>h,fun _ _=>rfl,fun b o I G=> ⟨by simp_all,b1 b o I (fun h=>G (h ▸ b0))⟩⟩
 have en:∀ j k,D j→H[j]? =some k→j≠i→(k.isLive=true∨k.jc=true)→(α j).1≠(α i).1:=fun j k I G ab Z b6=>by
  rcases Z with Z | Z
  ·exact ab (M.inj j i k _ I hi G a6 Z rfl b6)
  ·exact M.dc j k I G Z (b6 ▸ .inr b0)
 refine ⟨y,D,α,rfl, ⟨fun j J=> ?_,a7.below,fun b hb=>a7.cO b (by grind),fun b hb=>by rw [c5];exact M.sep b hb,fun j J=> ?_,fun a b k l ha hb O b3 I G ab=> ?_,fun j k J O bx=> ?_,fun j k J O=> ?_⟩,fun j J=> .inl J,c4,ec D D' α α' _ _ w' y et hi b4⟩
 ·show ∃ k,(H.set i (.row (.vals U) ty .live))[j]? =some k
  rw [aE]
  split
  ·grind
  ·exact M.lt j J
 ·refine ⟨(M.fresh j J).1, ?_⟩
  have I:=(M.fresh j J).2
  by_cases G:(α j).1=(α i).1
  ·rw [G,← b4];exact (a7.fresh 0 ct).2
  ·exact (Array.getElem?_eq_some_iff.1 (b1 _ _ (Array.getElem?_eq_getElem I) G)).1
 ·have c7:∀ j k,D j→((H.set i (.row (.vals U) ty .live))[·]?) j=some k→k.isLive=true→∃ k0,(H[·]?) j=some k0∧k0.isLive=true:=fun j k I G ab=>by
   have G:(H.set i (.row (.vals U) ty .live))[j]? =some k:=G
   rw [aE] at G
   split at G
   ·rename_i J;subst J;exact ⟨_,a6,rfl⟩
   grind
  obtain ⟨k0,q1,q2⟩:=c7 a k ha O I
  obtain ⟨l0,eu,ev⟩:=c7 b l hb b3 G
  exact M.inj a b k0 l0 ha hb q1 eu q2 ev ab
 ·have O:(H.set i (.row (.vals U) ty .live))[j]? =some k:=O
  rw [aE] at O
  rw [eb]
  split at O
  ·cases O;cases bx
  ·exact M.dc j k J O bx
 ·have a1:(H.set i (.row (.vals U) ty .live))[j]? =some k:=O
  clear O
  rw [aE] at a1
  by_cases b2:j=i
  ·subst b2
   rw [if_pos rfl] at a1
   cases a1
   have I:=a7.cM 0 (.row (.vals U) ty .live) ct rfl
   rw [b4] at I
   exact KH I
  ·rw [if_neg b2] at a1
   exact cP.mono (c4.keeps B0) (fun o eo b3=>b1 _ _ eo (en j k J a1 b2 b3)) (M.cM j k J a1)
noncomputable def xG (P:Program) (E:Env) (u d:Nat) (g:FuncId) (args:List AV) (H:Hp):Option (AV×Hp):=fS P E u d 0 g args H fun v H=>some (v,H)
theorem KO {E:Env} (M:bf P E.C) (I:dh P E) (J:P.follows .mixedOrders=true) {u d:Nat} {g:FuncId} {args:List AV} {H:Hp} {v:AV} {G:Hp} (O:fB P g=true) (h:xG P E u d g args H=some (v,G)):dg P g args H v G:=by
 unfold xG at h
 cases d with
 | zero=>simp [fS] at h
 | succ d=>
  obtain ⟨aE,U,Z,_,_,ab⟩:=CN (R:=AV×Hp) (rq M I J u d) I J 0 g args H _ _ O h
  grind
end
end Go.V
namespace Go.V
open Go Go.RowKit Go.Proofs Go.Shelf
open Go.Sort
noncomputable section
variable {P : Program}
theorem Y2 {w w':World} (h:bw w.heap.size w w'):∃ q Z,w'=grow (w.drewN q) Z:=by
 refine ⟨w'.drawn - w.drawn,w'.heap.extract w.heap.size w'.heap.size, ?_⟩
 obtain ⟨⟨M,O,U,aE,a1⟩,a6⟩:=h
 obtain ⟨J,tp,dr,a7,bx⟩:=w
 obtain ⟨G,b0,I,Z,bD⟩:=w'
 simp only at M O U aE a1 a6
 subst M O U
 have e1:G=J ++ G.extract J.size G.size:=by
  grind
 have ab:I=dr+(I - dr):=by omega
 show World.mk G _ I _ _=World.mk (J ++ G.extract J.size G.size) _ (dr+(I - dr)) _ _
 rw [← e1,← ab];rfl
section
variable {β : Type} [Inhabited β] {enc : β → List Value} {k : Nat}
omit [Inhabited β] in
theorem yB (G:∀ x,(enc x).length=k):∀ l:List β,(l.flatMap enc).length=l.length*k
 | []=>by simp
 | x :: l=>by rw [List.flatMap_cons,List.length_append,yB G l,G,List.length_cons,Nat.add_mul,Nat.one_mul,Nat.add_comm]
theorem LZ (J:∀ x,(enc x).length=k):∀ (l:List β) (j:Nat),j < l.length*k→(l.flatMap enc)[j]? =(enc l.toArray[j / k]!)[j % k]?
 | [],j,h=>by simp at h
 | x :: l,j,h=>by
  have G:0 < k:=Nat.pos_of_ne_zero fun G=>by grind
  rw [List.flatMap_cons]
  by_cases I:j < k
  ·rw [List.getElem?_append_left (by grind),Nat.div_eq_of_lt I,Nat.mod_eq_of_lt I]
   simp
  ·rw [List.length_cons,Nat.add_mul,Nat.one_mul] at h
   have M:j / k=(j - k) / k+1:=by rw [Nat.div_eq_sub_div G (by omega)]
   have O:j % k=(j - k) % k:=by rw [Nat.mod_eq_sub_mod (by omega)]
   rw [List.getElem?_append_right (by grind),J,LZ J l (j - k) (by omega),M,O]
   simp
theorem L0 (G:∀ x,(enc x).length=k) (l:List β):(flatK enc k l.toArray).toList=l.flatMap enc:=by
 apply List.ext_getElem?
 intro j
 by_cases M:j < l.length*k
 ·have I:0 < k:=Nat.pos_of_ne_zero fun I=>by grind
  have J:=get_flatK enc k l.toArray j (by grind)
  rw [getElem!_pos (flatK enc k l.toArray) j (by simp_all)] at J
  rw [LZ G l j M,Array.getElem?_toList,Array.getElem?_eq_getElem (by grind),J]
  have O:j % k < (enc l.toArray[j / k]!).length:=by rw [G];exact Nat.mod_lt j I
  grind
 ·rw [List.getElem?_eq_none (by simp_all),List.getElem?_eq_none (by rw [yB G];omega)]
theorem ahn {D:Nat→Prop} {α:Nat→Nat×Nat} {B:Nat→Prop} {w:World} {us G:List Value} (h:aj P α B w (us.map .val) D G):G=us:=by
 have:=aj.xt (P:=P) (List.all_eq_true.2 fun x I=>by obtain ⟨v,_,rfl⟩:=List.mem_map.1 I;rfl) h
 rw [this,List.map_map]
 exact List.map_id _
theorem aeQ {ρ:Ren} (L:SlLaysF0.n6 P ρ) (b4:∀ w,(isAgg (ρ.t 24)).run P w= .ok true w) (eR:∀ w,(Go.sizeOf (ρ.t 24)).run P w= .ok k w) (I:∀ x,(enc x).length=k) (ch:∀ x,∀ v ∈ enc x,v.oneCell'=true) {cf:β→β→Int} (c5:SWO (ltOf cf))
  (dx:∀ x y,ltOf cf x y=false→ltOf cf y x=false→x=y) {g:FuncId} (b6:∀ args w,(callFunc g args).run P w= .ok (.enter g args) w)
  (ea:∀ (x y:β) (W:World),Calls P g #[.agg (enc x).toArray, .agg (enc y).toArray] W fun e w'=>e= .returned (.int .i64 (cf x y))∧bw W.heap.size W w')
  {J:TypeId} {l:List β} {fl:Bool} {i:Nat} {H:Hp} (fv:0 < l.length) (gf:l.length < 4611686018427387904) (O:H[i]? =some (.row (.vals (l.flatMap enc)) J .live)):
  dg P (ρ.f 6) [.sl fl J i 0 l.length, .val (.func (.func g) #[] #[])] H (.tup []) (H.set i (.row (.vals ((l.mergeSort fun x y=> !ltOf cf y x).flatMap enc)) J .live)):=by
 intro B0 w0 D α w eL U dy
 obtain ⟨y,zs,e,et,eN,e2,rfl,ab,aE⟩:=dy
 have aE:e2= []:=aE
 subst aE
 have ab:eN= .func (.func g) #[] #[]:=ab
 subst ab
 obtain ⟨hi,cap,gn,q1,q2,hc,ep⟩:=et
 have eb:cap≠0:=by omega
 obtain ⟨bD,_⟩:=ep.resolve_left eb
 first | rw [bD] at q1 | rw [← bD] at q1
 subst q1
 have M:eL= #[.slice (some ⟨(α i).1,0,none⟩) l.length cap, .func (.func g) #[] #[]]:=by grind
 subst M
 have bx:=(List.getElem?_eq_some_iff.1 O).1
 obtain ⟨cs,fr,e1,M,a1,a6,b5⟩:=iB U hi (show (H[·]?) i=_ from O) rfl
 have e4:=yB I l
 have a6:(l.flatMap enc).length≤(α i).2:=a6
 have e3:cs.toList.take (l.flatMap enc).length=l.flatMap enc:=ahn b5
 have eg:∀ j,j < cs.size→w.frozen? ⟨(α i).1,j,none⟩=false:=fun j Z=>by
  have:=a1 rfl j (by omega)
  simp [World.frozen?,e1]
  omega
 have c4:HoldsK enc k w (α i).1 0 l.toArray:=by
  intro j Z
  rw [size_flatK] at Z
  have fc:j < l.length*k:=by grind
  rw [Nat.zero_add]
  refine ⟨?_,eg j (by omega)⟩
  rw [mL e1]
  have e5:(flatK enc k l.toArray)[j]? =(l.flatMap enc)[j]? :=by rw [← L0 I l,Array.getElem?_toList]
  grind
 have eh:=U.fresh i hi
 have ec:CmpLays P g #[] enc k cf (α i).1 0 l.toArray.size w:=fun m b1 dk fa x y=>by
  refine (ea x y _).mono ?_
  rintro e w' ⟨ct,c0⟩
  exact ⟨ct,Y2 c0⟩
 have a7:=AnyQ.slices_SortFunc_total L k b4 eR enc I ch cf c5 g #[] (α i).1 0 cap l.toArray w b6 ec c4 eh.2 (by grind) dx
 rw [show l.toArray.size=l.length from List.size_toArray] at a7
 refine callsIn_wide.2 (a7.mono ?_)
 rintro e w' ⟨rfl,n,b1,rfl⟩
 have ed:(l.mergeSort fun x y=> !ltOf cf y x).length=l.length:=List.length_mergeSort _
 generalize (l.mergeSort fun x y=> !ltOf cf y x)=G at*
 have b7:=yB I G
 rw [ed] at b7
 have c3:=L0 I G
 have e7:(flatK enc k G.toArray).size=l.length*k:=by grind
 have b2:(putRowK enc k (Go.Sort.ahead w n) (α i).1 0 G.toArray).heap.size=w.heap.size:=Go.Sort.size_putRow _ _ _ _ _
 have b3:∀ b,b≠(α i).1→(putRowK enc k (Go.Sort.ahead w n) (α i).1 0 G.toArray).heap[b]? =w.heap[b]? :=fun b hb=>by
  show (w.heap.modify _ _)[b]? =_
  grind
 have eu:(putRowK enc k (Go.Sort.ahead w n) (α i).1 0 G.toArray).heap[(α i).1]? =some (.cells (Go.Sort.putCells id 0 (flatK enc k G.toArray) cs) J fr):=by
  show (w.heap.modify _ _)[_]? =_
  rw [Array.getElem?_modify,if_pos rfl,e1];rfl
 have ev:(Go.Sort.putCells id 0 (flatK enc k G.toArray) cs).size=cs.size:=by simp [Go.Sort.putCells]
 have ez:(Go.Sort.putCells id 0 (flatK enc k G.toArray) cs).toList.take (G.flatMap enc).length=G.flatMap enc:=by
  apply List.ext_getElem?
  intro j
  rw [List.getElem?_take]
  by_cases Z:j < l.length*k
  ·rw [if_pos (by omega),Array.getElem?_toList,← c3,Array.getElem?_toList]
   unfold Go.Sort.putCells
   grind
  grind
 obtain ⟨c6,en⟩:=za (w':=putRowK enc k (Go.Sort.ahead w n) (α i).1 0 G.toArray) U hi (k1:= .row (.vals (G.flatMap enc)) J .live) (show (H[·]?) i=_ from O) rfl rfl b2 b3
  (fun B e6=> ⟨⟨rfl,rfl,rfl,Nat.le_of_eq b2.symm,fun q b0=>b3 q (by omega)⟩,Nat.le_add_right _ _⟩)
  (fun fs=> .inr ⟨_,fr,eu,by rw [ev,M],a1,by show (G.flatMap enc).length≤_;omega,by
   show aj P α _ _ ((G.flatMap enc).map .val) D (List.take (G.flatMap enc).length _)
   rw [ez];exact aj.vals _⟩)
 obtain ⟨c7,eo⟩:=oF (w':=grow (putRowK enc k (Go.Sort.ahead w n) (α i).1 0 G.toArray) b1) c6 ⟨⟨rfl,rfl,rfl,by simp_all,fun q b0=>Array.getElem?_append_left b0⟩,Nat.le_refl _⟩
 exact ⟨.tuple #[],D,α,rfl,by rw [wu H bx];exact c7,fun i hi=> .inl hi,by rw [wu H bx];exact en.trans eo, ⟨#[],rfl,rfl⟩⟩
end
end
end Go.V
namespace Go.Proofs.YtamcpiicmfielaaGreat.L
open Go Go.V Go.RowKit Go.Shelf Go.Proofs.YtamcpiicmfielaaGreat.Sp
open Go.Proofs (Tryz.prog)
noncomputable section
def ZK:Shelf.Ren:= ⟨fun n=>bif n==6 then 66 else bif n==15 then 111 else bif n==14 then 110 else bif n==28 then 150 else bif n==29 then 151 else bif n==20 then 142 else bif n==21 then 143 else bif n==22 then 144 else bif n==23 then 145 else bif n==24 then 146 else bif n==25 then 147 else bif n==26 then 148 else bif n==27 then 149 else bif n==46 then 164 else bif n==47 then 165 else bif n==48 then 166 else bif n==49 then 167 else bif n==50 then 168 else bif n==57 then 173 else n,fun n=>bif n==22 then 22 else bif n==24 then 27 else bif n==25 then 45 else bif n==3 then 3 else bif n==39 then 125 else bif n==0 then 0 else bif n==53 then 129 else bif n==55 then 128 else bif n==4 then 4 else bif n==46 then 149 else bif n==45 then 148 else bif n==50 then 133 else bif n==5 then 5 else bif n==9 then 9 else bif n==66 then 167 else bif n==70 then 171 else bif n==76 then 177 else bif n==77 then 178 else n,fun n=>n⟩
theorem ZJ:SlLaysF0.n6 Tryz.prog ZK where
 mixed:=mixed
 f6 := ⟨ "slices.SortFunc[[]narrows/api.Rat,narrows/api.Rat]", by kernel_rfl, by kernel_rfl⟩
 f14 := ⟨ "slices.pdqsortCmpFunc[narrows/api.Rat]", by kernel_rfl, by kernel_rfl⟩
 f15:=by kernel_rfl
 f20 := ⟨ "slices.insertionSortCmpFunc[narrows/api.Rat]", by kernel_rfl, by kernel_rfl⟩
 f21 := ⟨ "slices.heapSortCmpFunc[narrows/api.Rat]", by kernel_rfl, by kernel_rfl⟩
 f22 := ⟨ "slices.breakPatternsCmpFunc[narrows/api.Rat]", by kernel_rfl, by kernel_rfl⟩
 f23 := ⟨ "slices.choosePivotCmpFunc[narrows/api.Rat]", by kernel_rfl, by kernel_rfl⟩
 f24 := ⟨ "slices.reverseRangeCmpFunc[narrows/api.Rat]", by kernel_rfl, by kernel_rfl⟩
 f25 := ⟨ "slices.partialInsertionSortCmpFunc[narrows/api.Rat]", by kernel_rfl, by kernel_rfl⟩
 f26 := ⟨ "slices.partitionEqualCmpFunc[narrows/api.Rat]", by kernel_rfl, by kernel_rfl⟩
 f27 := ⟨ "slices.partitionCmpFunc[narrows/api.Rat]", by kernel_rfl, by kernel_rfl⟩
 f28:=by kernel_rfl
 f29:=by kernel_rfl
 f46 := ⟨ "slices.siftDownCmpFunc[narrows/api.Rat]", by kernel_rfl, by kernel_rfl⟩
 f47:=by kernel_rfl
 f48:=by kernel_rfl
 f49 := ⟨ "slices.medianAdjacentCmpFunc[narrows/api.Rat]", by kernel_rfl, by kernel_rfl⟩
 f50 := ⟨ "slices.medianCmpFunc[narrows/api.Rat]", by kernel_rfl, by kernel_rfl⟩
 f57 := ⟨ "slices.order2CmpFunc[narrows/api.Rat]", by kernel_rfl, by kernel_rfl⟩
 t0:=by kernel_rfl
 a0:=fun w=>by kernel_rfl
 z0:=fun w=>by kernel_rfl
 v0:=fun w=>by kernel_rfl
 t3:=by kernel_rfl
 a3:=fun w=>by kernel_rfl
 z3:=fun w=>by kernel_rfl
 v3:=fun w=>by kernel_rfl
 t4:=by kernel_rfl
 a4:=fun w=>by kernel_rfl
 z4:=fun w=>by kernel_rfl
 v4:=fun w=>by kernel_rfl
 t5:=by kernel_rfl
 a5:=fun w=>by kernel_rfl
 z5:=fun w=>by kernel_rfl
 v5:=fun w=>by kernel_rfl
 t9:=by kernel_rfl
 a9:=fun w=>by kernel_rfl
 z9:=fun w=>by kernel_rfl
 v9:=fun w=>by kernel_rfl
 t22:=by kernel_rfl
 a22:=fun w=>by kernel_rfl
 z22:=fun w=>by kernel_rfl
 v22:=fun w=>by kernel_rfl
 t25:=by kernel_rfl
 a25:=fun w=>by kernel_rfl
 z25:=fun w=>by kernel_rfl
 v25:=fun w=>by kernel_rfl
 t39:=by kernel_rfl
 a39:=fun w=>by kernel_rfl
 z39:=fun w=>by kernel_rfl
 v39:=fun w=>by kernel_rfl
 t45:=by kernel_rfl
 a45:=fun w=>by kernel_rfl
 z45:=fun w=>by kernel_rfl
 v45:=fun w=>by kernel_rfl
 t46:=by kernel_rfl
 a46:=fun w=>by kernel_rfl
 z46:=fun w=>by kernel_rfl
 v46:=fun w=>by kernel_rfl
 t50:=by kernel_rfl
 a50:=fun w=>by kernel_rfl
 z50:=fun w=>by kernel_rfl
 v50:=fun w=>by kernel_rfl
 t53:=by kernel_rfl
 a53:=fun w=>by kernel_rfl
 z53:=fun w=>by kernel_rfl
 v53:=fun w=>by kernel_rfl
 t55:=by kernel_rfl
 a55:=fun w=>by kernel_rfl
 z55:=fun w=>by kernel_rfl
 v55:=fun w=>by kernel_rfl
 t66:=by kernel_rfl
 a66:=fun w=>by kernel_rfl
 z66:=fun w=>by kernel_rfl
 v66:=fun w=>by kernel_rfl
 t70:=by kernel_rfl
 a70:=fun w=>by kernel_rfl
 z70:=fun w=>by kernel_rfl
 v70:=fun w=>by kernel_rfl
 t76:=by kernel_rfl
 a76:=fun w=>by kernel_rfl
 z76:=fun w=>by kernel_rfl
 v76:=fun w=>by kernel_rfl
 t77:=by kernel_rfl
 a77:=fun w=>by kernel_rfl
 z77:=fun w=>by kernel_rfl
 v77:=fun w=>by kernel_rfl
end
end Go.Proofs.YtamcpiicmfielaaGreat.L
namespace Go.Proofs.YtamcpiicmfielaaGreat.L
open Go Go.V Go.RowKit Go.Proofs.YtamcpiicmfielaaGreat.Sp
open Go.Proofs (Tryz.prog)
noncomputable section
abbrev fF:List Bool:= [false,true,false,true,false,true,false,false,true,false,false,true,false,true,true]
def im (m:Nat) (k:Int) (o q:Nat) (j:Int) (us:List Value):List AV:=ar 61 [(0, .sl false 27 0 0 m),(2, .val (.slice none 0 0)),(3, .val (.int .i64 k)),(4, .sl false 27 0 o q),(5, .val (.int .i64 j))]
def gZ (m:Nat) (k:Int) (o q:Nat) (j:Int) (us:List Value):Hp:= [.row (.vals us) 27 .live]
theorem Ti:aH Tryz.prog 67 fF=some (.loop (lb 67 fF)):=by kernel_rfl
theorem U5:aH Tryz.prog 67 (false :: fF)=some (lb 67 fF):=by kernel_rfl
theorem OZ (m:Nat) (k:Int) (o q:Nat) (j:Int) (us:List Value):letI J:=(us.getD (o+j.toNat*3+1) undef);letI I:=(us.getD (o+j.toNat*3+1+1) undef);letI O:=(aG (ah J) (ah (us.getD (o+(j - 1).toNat*3+1) undef))&&(aG (ah I) (ah (us.getD (o+(j - 1).toNat*3+1+1) undef))&&true));letI G:=(us.getD (o+j.toNat*3) undef);letI M:=(us.getD (o+(j - 1).toNat*3) undef);
  (dN Tryz.prog ⟨aK,au,aq⟩ 1 67 [0,2,3,4,5] (lb 67 fF) (false :: fF) (im m k o q j us) (gZ m k o q j us)=(bif decide (j < (↑q:Int)) then (bif decide (0≤j)&&decide (j < (↑q:Int)) then (bif decide (o+j.toNat*3 < us.length) then (bif decide (o+j.toNat*3+1 < us.length) then (bif decide (o+j.toNat*3+1+1 < us.length) then (bif ai IntKind.i64 (j - 1) then (bif decide (0≤j - 1)&&decide (j - 1 < (↑q:Int)) then (bif decide (o+(j - 1).toNat*3 < us.length) then (bif decide (o+(j - 1).toNat*3+1 < us.length) then (bif decide (o+(j - 1).toNat*3+1+1 < us.length) then (bif b8 G&&b8 M then (bif bb J&&bb (us.getD (o+(j - 1).toNat*3+1) undef) then (bif bb I&&bb (us.getD (o+(j - 1).toNat*3+1+1) undef) then (bif bif true then !(az G==az M&&O) else az G==az M&&O then (bif decide (0≤j)&&decide (j < (↑q:Int)) then (bif decide (o+j.toNat*3 < us.length) then (bif decide (o+j.toNat*3+1 < us.length) then (bif decide (o+j.toNat*3+1+1 < us.length) then (bif decide (0≤k)&&decide (k < (↑m:Int)) then (bif [AV.val G,AV.val J,AV.val I].all bB then (bif decide (0+k.toNat*3+3≤us.length) then (bif ai IntKind.i64 (k+1) then (bif ai IntKind.i64 (j+1) then some (.normal,ar 61 [(0,(.sl false 27 0 0 m)),(2,(.val (.slice .none 0 0))),(3,(.val (.int .i64 (k+1)))),(4,(.sl false 27 0 o q)),(5,(.val (.int .i64 (j+1))))], [(.row (.vals (((List.take (0+k.toNat*3) us) ++ ([G,J,I]:List Value)) ++ (List.drop (0+k.toNat*3+3) us))) 27 .live)]) else none) else none) else none) else none) else none) else none) else none) else none) else none) else (bif ai IntKind.i64 (j+1) then some (.normal,ar 61 [(0,(.sl false 27 0 0 m)),(2,(.val (.slice .none 0 0))),(3,(.val (.int .i64 k))),(4,(.sl false 27 0 o q)),(5,(.val (.int .i64 (j+1))))], [(.row (.vals us) 27 .live)]) else none)) else none) else none) else none) else none) else none) else none) else none) else none) else none) else none) else none) else none) else some ((.exit 2),ar 61 [(0,(.sl false 27 0 0 m)),(2,(.val (.slice .none 0 0))),(3,(.val (.int .i64 k))),(4,(.sl false 27 0 o q)),(5,(.val (.int .i64 j)))], [(.row (.vals us) 27 .live)]))):=by kernel_rfl
theorem Gb {m:Nat} {k:Int} {o q:Nat} {j:Int} {us:List Value} {e:Ex} {T:List AV} {H:Hp} (h:dN Tryz.prog ⟨aK,au,aq⟩ 1 67 [0,2,3,4,5] (lb 67 fF) (false :: fF) (im m k o q j us) (gZ m k o q j us)=some (e,T,H)):V.Ends Tryz.prog false 1 0 (lb 67 fF) (im m k o q j us) (gZ m k o q j us) e T H:=
 qp (aJ _) aN mixed U5 h
def aL (l:List Rat):List Value:=l.flatMap dD
theorem mM (l:List Rat):(aL l).length=l.length*3:=by
 induction l with
 | nil=>rfl
 | cons x l G=>show (dD x ++ aL l).length=_;rw [List.length_append,G,List.length_cons];show 3+_=_;omega
theorem ri (l k:List Rat):aL (l ++ k)=aL l ++ aL k:=List.flatMap_append
theorem tD (n:Nat) (q:Nat→Rat):cp n q=aL ((List.range n).map q):=by
 unfold cp aL
 rw [List.flatMap_map]
def aQ (S:Nat→Rat):Nat→List Rat
 | 0=> []
 | p+1=>if p≠0∧S p=S (p - 1) then aQ S p else aQ S p ++ [S p]
section
variable {S : Nat → Rat} {m p : Nat} {us : List Value}
theorem Li:∀ p,(aQ S p).length≤p
 | 0=>Nat.le_refl _
 | p+1=>by
  unfold aQ
  have:=Li p
  split
  ·omega
  ·rw [List.length_append];show _+1≤_;omega
theorem C0:∀ p,(∀ i,0 < i→i < p→S i≠S (i - 1))→aQ S p=(List.range p).map S
 | 0,_=>rfl
 | p+1,h=>by
  unfold aQ
  rw [if_neg (fun ⟨G,I⟩=>h p (Nat.pos_of_ne_zero G) (by omega) I),C0 p (fun i G I=>h i G (by omega)),List.range_succ,List.map_append];rfl
structure gN (S:Nat→Rat) (m p:Nat) (us:List Value):Prop where
 len:us.length=m*3
 k1:(aQ S p).length < p
 pre:us.take ((aQ S p).length*3)=aL (aQ S p)
 rest:∀ i,p≤i+1→i < m→∀ c,c < 3→us.getD (i*3+c) undef=(dD (S i)).getD c undef
theorem gN.same (h:gN S m p us) (J:0 < p) (I:S p=S (p - 1)):gN S m (p+1) us:=by
 have e:aQ S (p+1)=aQ S p:=by
  show (if _ then _ else _)=_
  rw [if_pos ⟨by omega,I⟩]
 exact ⟨h.len,by rw [e];have:=h.k1;omega,by rw [e];exact h.pre,fun i M G=>h.rest i (by omega) G⟩
theorem gN.more (h:gN S m p us) (ab:p < m) (M:S p≠S (p - 1)):gN S m (p+1) (us.take ((aQ S p).length*3) ++ dD (S p) ++ us.drop ((aQ S p).length*3+3))∧(aQ S (p+1)).length=(aQ S p).length+1:=by
 have e:aQ S (p+1)=aQ S p ++ [S p]:=by
  show (if _ then _ else _)=_
  rw [if_neg (fun h=>M h.2)]
 have O:=h.k1
 have Z:=h.len
 have G:(aQ S (p+1)).length=(aQ S p).length+1:=by rw [e,List.length_append];rfl
 have l1:(us.take ((aQ S p).length*3)).length=(aQ S p).length*3:=by rw [List.length_take];omega
 have l2:(us.take ((aQ S p).length*3) ++ dD (S p)).length=(aQ S p).length*3+3:=by rw [List.length_append,l1];rfl
 refine ⟨⟨?_,by omega, ?_,fun i U I c J=> ?_⟩,G⟩
 ·rw [List.length_append,l2,List.length_drop];omega
 ·rw [G,show ((aQ S p).length+1)*3=(us.take ((aQ S p).length*3) ++ dD (S p)).length by rw [l2];omega,List.take_left' rfl,e,ri,← h.pre]
  show _=_ ++ (dD (S p) ++ [])
  rw [List.append_nil]
 ·rw [List.getD_eq_getElem?_getD,List.getElem?_append_right (by rw [l2];omega),l2,List.getElem?_drop,show (aQ S p).length*3+3+(i*3+c - ((aQ S p).length*3+3))=i*3+c by omega,← List.getD_eq_getElem?_getD]
  exact h.rest i (by omega) I c J
end
theorem OR (x y:Rat):(af.qn x==af.qn y&&(aG (af.qs x) (af.qs y)&&(aG (af.qd x) (af.qd y)&&true)))=decide (x=y):=by
 by_cases h:x=y
 ·subst h
  rw [beq_self_eq_true,lG,lG,decide_eq_true rfl];rfl
 ·rw [decide_eq_false h,Bool.eq_false_iff]
  intro G
  simp only [Bool.and_eq_true,beq_iff_eq,oQ,and_true,decide_eq_true_eq] at G
  obtain ⟨I,J,M⟩:=G
  apply h
  rw [← fK x,← fK y,I,J,M]
theorem gN.at {S:Nat→Rat} {m p:Nat} {us:List Value} (h:gN S m p us) (i:Nat) (G:p≤i+1) (I:i < m):us.getD (i*3) undef= .bool (af.qn (S i))∧us.getD (i*3+1) undef= .string (af.qs (S i))∧us.getD (i*3+1+1) undef= .string (af.qd (S i)):=
 ⟨h.rest i G I 0 (by decide),h.rest i G I 1 (by decide),h.rest i G I 2 (by decide)⟩
section
variable {S : Nat → Rat} {m k0 : Nat} {us : List Value}
theorem Ux (b4:m≤1000000) (j:Nat) (O:k0+j+1 < m) (h:gN S m (k0+j+1) us):∃ M,gN S m (k0+j+1+1) M∧
  V.Ends Tryz.prog false 1 0 (lb 67 fF) (im m ((aQ S (k0+j+1)).length:Int) (k0*3) (m - k0) ((j+1:Nat):Int) us) (gZ m ((aQ S (k0+j+1)).length:Int) (k0*3) (m - k0) ((j+1:Nat):Int) us) .normal (im m ((aQ S (k0+j+1+1)).length:Int) (k0*3) (m - k0) ((j+1+1:Nat):Int) M) (gZ m ((aQ S (k0+j+1+1)).length:Int) (k0*3) (m - k0) ((j+1+1:Nat):Int) M):=by
 have b3:=h.len
 have b2:=h.k1
 obtain ⟨U,Z,ab⟩:=h.at (k0+j+1) (by omega) O
 obtain ⟨aE,a1,a6⟩:=h.at (k0+j) (by omega) (by omega)
 have G:=OZ m ((aQ S (k0+j+1)).length:Int) (k0*3) (m - k0) ((j+1:Nat):Int) us
 have e1:((j+1:Nat):Int) - 1=(j:Int):=by omega
 have b0:k0*3+(j+1)*3=(k0+j+1)*3:=by omega
 have b1:k0*3+j*3=(k0+j)*3:=by omega
 simp only [e1,Int.toNat_natCast,b0,b1,U,Z,ab,aE,a1,a6,Nat.zero_add] at G
 rw [dT (show ((j+1:Nat):Int) < ((m - k0:Nat):Int) by omega),dT (show (0:Int)≤((j+1:Nat):Int) by omega),dT (show (k0+j+1)*3 < us.length by omega),dT (show (k0+j+1)*3+1 < us.length by omega),dT (show (k0+j+1)*3+1+1 < us.length by omega),aM (z:=(j:Int)) (by omega),dT (show (0:Int)≤(j:Int) by omega),dT (show (j:Int) < ((m - k0:Nat):Int) by omega),
  dT (show (k0+j)*3 < us.length by omega),dT (show (k0+j)*3+1 < us.length by omega),dT (show (k0+j)*3+1+1 < us.length by omega),dT (show (0:Int)≤((aQ S (k0+j+1)).length:Int) by omega),dT (show ((aQ S (k0+j+1)).length:Int) < (m:Int) by omega),dT (show (aQ S (k0+j+1)).length*3+3≤us.length by omega),aM (z:=((aQ S (k0+j+1)).length:Int)+1) (by omega),aM (z:=((j+1:Nat):Int)+1) (by omega)] at G
 have bD:(az (.bool (af.qn (S (k0+j+1))))==az (.bool (af.qn (S (k0+j))))&&(aG (ah (.string (af.qs (S (k0+j+1))))) (ah (.string (af.qs (S (k0+j)))))&&(aG (ah (.string (af.qd (S (k0+j+1))))) (ah (.string (af.qd (S (k0+j)))))&&true)))=decide (S (k0+j+1)=S (k0+j)):=OR _ _
 rw [bD] at G
 by_cases I:S (k0+j+1)=S (k0+j)
 ·rw [decide_eq_true I] at G
  have J:=h.same (by omega) (by rw [Nat.add_sub_cancel];exact I)
  have a7:aQ S (k0+j+1+1)=aQ S (k0+j+1):=by
   show (if _ then _ else _)=_
   rw [if_pos ⟨by omega,by rw [Nat.add_sub_cancel];exact I⟩]
  exact ⟨us,J,by rw [a7];exact Gb G⟩
 ·rw [decide_eq_false I] at G
  obtain ⟨J,bx⟩:=h.more O (by rw [Nat.add_sub_cancel];exact I)
  exact ⟨_,J,by rw [bx];exact Gb G⟩
theorem Uw (ab:m≤1000000) (r:Nat):∀ (j:Nat) (us:List Value),k0+j+1+r=m→gN S m (k0+j+1) us→∃ G,gN S m m G∧
  bT Tryz.prog 1 (lb 67 fF) (im m ((aQ S (k0+j+1)).length:Int) (k0*3) (m - k0) ((j+1:Nat):Int) us) (gZ m ((aQ S (k0+j+1)).length:Int) (k0*3) (m - k0) ((j+1:Nat):Int) us) (.exit 2) (im m ((aQ S m).length:Int) (k0*3) (m - k0) ((m - k0:Nat):Int) G) (gZ m ((aQ S m).length:Int) (k0*3) (m - k0) ((m - k0:Nat):Int) G):=by
 induction r with
 | zero=>
  intro j us Z h
  have e:m=k0+j+1:=by omega
  subst e
  refine ⟨us,h, .last (Gb ?_) (by intro h;cases h)⟩
  have I:k0+j+1 - k0=j+1:=by omega
  rw [OZ,I,dF (show ¬ ((j+1:Nat):Int) < ((j+1:Nat):Int) by omega)]
  rfl
 | succ r aE=>
  intro j us Z h
  obtain ⟨G,J,M⟩:=Ux ab j (by omega) h
  obtain ⟨a1,O,U⟩:=aE (j+1) G (by omega) J
  exact ⟨a1,O, .more M U⟩
end
def uZ (m:Nat) (k:Int) (o q:Nat) (j:Int) (us:List Value):Prop:=∃ k0:Nat,k=k0∧o=k0*3∧q=m - k0∧j=1∧0 < k0∧k0 < m∧m≤1000000∧us=cp m (qt us)∧aQ (qt us) (k0+1)=(List.range k0).map (qt us)
def Ev (m:Nat) (k:Int) (o q:Nat) (j:Int) (us:List Value) (ρ:Int×Int×List Value):Prop:=ρ.1=((aQ (qt us) m).length:Int)∧gN (qt us) m m ρ.2.2
theorem WU {us:List Value} {m k0:Nat} (U:k0 < m) (I:us=cp m (qt us)) (G:aQ (qt us) (k0+1)=(List.range k0).map (qt us)):gN (qt us) m (k0+1) us:=by
 have O:us.length=m*3:=by rw [I,iE]
 have M:(aQ (qt us) (k0+1)).length=k0:=by rw [G,List.length_map,List.length_range]
 refine ⟨O,by omega, ?_,fun i Z J c G=> ?_⟩
 ·rw [M,G,← tD]
  conv=>lhs;rw [I]
  obtain ⟨r,rfl⟩:∃ r,m=k0+r:= ⟨m - k0,by omega⟩
  unfold cp
  rw [List.range_add,List.flatMap_append]
  exact List.take_left' (iE k0 (qt us))
 ·conv=>lhs;rw [I]
  exact nZ m (qt us) J G
theorem aaq (m:Nat) (k:Int) (o q:Nat) (j:Int) (us:List Value) (h:uZ m k o q j us):∃ ρ:Int×Int×List Value,bT Tryz.prog 1 (lb 67 fF) (im m k o q j us) (gZ m k o q j us) (.exit 2) (im m ρ.1 o q ρ.2.1 ρ.2.2) (gZ m ρ.1 o q ρ.2.1 ρ.2.2)∧Ev m k o q j us ρ:=by
 obtain ⟨k0,rfl,rfl,rfl,rfl,aE,J,U,Z,I⟩:=h
 obtain ⟨ab,M,G⟩:=Uw (k0:=k0) U (m - (k0+1)) 0 us (by omega) (WU J Z I)
 have O:(aQ (qt us) (k0+1)).length=k0:=by rw [I,List.length_map,List.length_range]
 rw [Nat.add_zero,O] at G
 exact ⟨(_,_,ab),G,rfl,M⟩
def G2 (I:Nat→Int→Nat→Nat→Int→List Value→Bool) (G:Nat→Int→Nat→Nat→Int→List Value→Int×Int×List Value) (T:List AV) (H:Hp):Option (Bool×Ex×List AV×Hp):=
 match al T 0,al T 2,al T 3,al T 4,al T 5,H with
 | .sl false 27 0 0 m, .val (.slice none 0 0), .val (.int .i64 k), .sl false 27 0 o q, .val (.int .i64 j), [.row (.vals us) 27 .live]=>bif T.length==61 then some (I m k o q j us, .exit 2,im m ((G m k o q j us).1) o q ((G m k o q j us).2.1) ((G m k o q j us).2.2),gZ m ((G m k o q j us).1) o q ((G m k o q j us).2.1) ((G m k o q j us).2.2)) else none
 | _,_,_,_,_,_=>none
abbrev Ju:Type:=Nat→Int→Nat→Nat→Int→List Value→Bool
abbrev IV:Type:=Nat→Int→Nat→Nat→Int→List Value→Int×Int×List Value
def xc (G:Ju) (I:IV) (L:aC):aC:=bp 1 67 fF [0,2,3,4,5] (G2 G I) L
def kg (m:Nat) (k:Int) (o q:Nat) (j:Int) (us:List Value):Int×Int×List Value:=Classical.epsilon fun ρ=>bT Tryz.prog 1 (lb 67 fF) (im m k o q j us) (gZ m k o q j us) (.exit 2) (im m (ρ.1) o q (ρ.2.1) (ρ.2.2)) (gZ m (ρ.1) o q (ρ.2.1) (ρ.2.2))∧Ev m k o q j us ρ
theorem N1 (m:Nat) (k:Int) (o q:Nat) (j:Int) (us:List Value) (h:uZ m k o q j us):bT Tryz.prog 1 (lb 67 fF) (im m k o q j us) (gZ m k o q j us) (.exit 2) (im m ((kg m k o q j us).1) o q ((kg m k o q j us).2.1) ((kg m k o q j us).2.2)) (gZ m ((kg m k o q j us).1) o q ((kg m k o q j us).2.1) ((kg m k o q j us).2.2))∧Ev m k o q j us (kg m k o q j us):=Classical.epsilon_spec (aaq m k o q j us h)
def tI (m:Nat) (k:Int) (o q:Nat) (j:Int) (us:List Value):Bool:= @decide (uZ m k o q j us) (Classical.propDecidable _)
theorem VZ (m:Nat) (k:Int) (o q:Nat) (j:Int) (us:List Value) (h:uZ m k o q j us):tI m k o q j us=true:= @decide_eq_true _ (Classical.propDecidable _) h
theorem af1 (T:List AV) (H:Hp) (e:Ex) (J:List AV) (I:Hp) (h:G2 tI kg T H=some (true,e,J,I)):V.Ends Tryz.prog false 1 0 (.loop (lb 67 fF)) T H e J I:=by
 unfold G2 at h
 split at h
 ·rename_i m k o q j us U Z ab aE a1
  rw [Bool.cond_eq_ite] at h
  split at h
  ·rename_i M
   rw [beq_iff_eq] at M
   simp only [Option.some.injEq,Prod.mk.injEq,Bool.and_eq_true,decide_eq_true_eq] at h
   obtain ⟨k1,rfl,rfl,rfl⟩:=h
   have a7:= @of_decide_eq_true _ (Classical.propDecidable _) k1
   refine Ends.pre (N1 m k o q j us a7).1.ends (fun α B w D bx a6=>bq M (fun p O y G=> ?_) a6)
   simp only [List.mem_cons,List.not_mem_nil,or_false] at O
   rcases O with rfl | rfl | rfl | rfl | rfl
   ·rw [U] at G;exact G
   ·rw [Z] at G;exact G
   ·rw [ab] at G;exact G
   ·rw [aE] at G;exact G
   ·rw [a1] at G;exact G
  ·cases h
 ·cases h
theorem RP {L:aC} (h:aB Tryz.prog L):aB Tryz.prog (xc tI kg L):=h.bz Ti af1
abbrev ek:List Bool:= [false,true,false,true,true]
def gK (m:Nat) (k:Int) (us:List Value):List AV:=ar 61 [(0, .sl false 27 0 0 m),(2, .val (.slice none 0 0)),(3, .val (.int .i64 k))]
def fV (m:Nat) (k:Int) (us:List Value):Hp:= [.row (.vals us) 27 .live]
theorem Th:aH Tryz.prog 67 ek=some (.loop (lb 67 ek)):=by kernel_rfl
theorem U4:aH Tryz.prog 67 (false :: ek)=some (lb 67 ek):=by kernel_rfl
theorem OY (U:Ju) (Z:IV) (m:Nat) (k:Int) (us:List Value):letI I:=(0+k.toNat*3);letI G:=(Z m k I (m - k.toNat) (1:Int) us);letI O:=(us.getD (0+(k - 1).toNat*3+1+1) undef);letI M:=(aG (ah (us.getD (0+k.toNat*3+1) undef)) (ah (us.getD (0+(k - 1).toNat*3+1) undef))&&(aG (ah (us.getD (0+k.toNat*3+1+1) undef)) (ah O)&&true));letI J:=(us.getD (0+(k - 1).toNat*3) undef);
  (dN Tryz.prog (⟨aK,au,xc U Z aq⟩:Env) 1 67 [0,2,3] (lb 67 ek) (false :: ek) (gK m k us) (fV m k us)=(bif decide (k < (↑m:Int)) then (bif decide (0≤k)&&decide (k < (↑m:Int)) then (bif decide (0+k.toNat*3 < us.length) then (bif decide (0+k.toNat*3+1 < us.length) then (bif decide (0+k.toNat*3+1+1 < us.length) then (bif ai IntKind.i64 (k - 1) then (bif decide (0≤k - 1)&&decide (k - 1 < (↑m:Int)) then (bif decide (0+(k - 1).toNat*3 < us.length) then (bif decide (0+(k - 1).toNat*3+1 < us.length) then (bif decide (0+(k - 1).toNat*3+1+1 < us.length) then (bif b8 (us.getD I undef)&&b8 J then (bif bb (us.getD (0+k.toNat*3+1) undef)&&bb (us.getD (0+(k - 1).toNat*3+1) undef) then (bif bb (us.getD (0+k.toNat*3+1+1) undef)&&bb O then (bif bif false then !(az (us.getD I undef)==az J&&M) else az (us.getD I undef)==az J&&M then (bif decide (0≤k)&&decide (k≤(↑m:Int)) then (bif U m k I (m - k.toNat) (1:Int) us then (bif decide (0≤G.fst)&&decide (G.fst≤(↑m:Int)) then (bif decide (0 < m - G.fst.toNat)&&decide (0+G.fst.toNat*3+(m - G.fst.toNat)*3≤G.snd.snd.length) then (bif decide (0≤G.fst)&&decide (G.fst≤(↑m:Int)) then some (.ret,ar 61 [(0,(.sl false 27 0 0 m)),(2,(.sl false 27 0 0 (G.fst.toNat - 0))),(3,(.val (.int .i64 (G.fst))))], [(.row (.vals (((List.take (0+G.fst.toNat*3) (G.snd.snd)) ++ (oZ (m - G.fst.toNat) [(.val (.bool false)),(.val (.string (ByteArray.mk #[]))),(.val (.string (ByteArray.mk #[])))])) ++ (List.drop (0+G.fst.toNat*3+(m - G.fst.toNat)*3) (G.snd.snd)))) 27 .live)]) else none) else none) else none) else none) else none) else (bif ai IntKind.i64 (k+1) then some (.normal,ar 61 [(0,(.sl false 27 0 0 m)),(2,(.val (.slice .none 0 0))),(3,(.val (.int .i64 (k+1))))], [(.row (.vals us) 27 .live)]) else none)) else none) else none) else none) else none) else none) else none) else none) else none) else none) else none) else none) else none) else some ((.exit 0),ar 61 [(0,(.sl false 27 0 0 m)),(2,(.val (.slice .none 0 0))),(3,(.val (.int .i64 k)))], [(.row (.vals us) 27 .live)]))):=by kernel_rfl
theorem Ac {m:Nat} {k:Int} {us:List Value} {e:Ex} {T:List AV} {H:Hp} (h:dN Tryz.prog (⟨aK,au,xc tI kg aq⟩:Env) 1 67 [0,2,3] (lb 67 ek) (false :: ek) (gK m k us) (fV m k us)=some (e,T,H)):V.Ends Tryz.prog false 1 0 (lb 67 ek) (gK m k us) (fV m k us) e T H:=
 qp (aJ _) (RP aB.none).ok mixed U4 h
section
variable {m : Nat} {us : List Value}
theorem jH {m:Nat} {us:List Value} (M:us=cp m (qt us)):∀ i,i < m→us.getD (i*3) undef= .bool (af.qn (qt us i))∧us.getD (i*3+1) undef= .string (af.qs (qt us i))∧us.getD (i*3+1+1) undef= .string (af.qd (qt us i)):=fun i hi=>by
 have G:=nZ m (qt us) hi (show 0 < 3 by decide)
 have I:=nZ m (qt us) hi (show 1 < 3 by decide)
 have J:=nZ m (qt us) hi (show 2 < 3 by decide)
 rw [← M] at G I J
 exact ⟨G,I,J⟩
theorem CM (b2:m≤1000000) (I:us=cp m (qt us)) (k:Nat) (M:k+1 < m) {r:Option (Ex×List AV×Hp)} (h:dN Tryz.prog (⟨aK,au,xc tI kg aq⟩:Env) 1 67 [0,2,3] (lb 67 ek) (false :: ek) (gK m ((k+1:Nat):Int) us) (fV m ((k+1:Nat):Int) us)=r):
  (qt us (k+1)≠qt us k→r=some (.normal,gK m ((k+1+1:Nat):Int) us,fV m ((k+1+1:Nat):Int) us))∧
  (qt us (k+1)=qt us k→aQ (qt us) (k+1)=(List.range (k+1)).map (qt us)→r=some (.ret,ar 61 [(0, .sl false 27 0 0 m),(2, .sl false 27 0 0 (aQ (qt us) m).length),(3, .val (.int .i64 ((aQ (qt us) m).length:Int)))], [.row (.vals (aL (aQ (qt us) m) ++ oZ (m - (aQ (qt us) m).length) [.val (.bool false), .val (.string (ByteArray.mk #[])), .val (.string (ByteArray.mk #[]))])) 27 .live])):=by
 have b6:us.length=m*3:=by rw [I,iE]
 obtain ⟨aE,a1,a6⟩:=jH I (k+1) M
 obtain ⟨a7,bx,bD⟩:=jH I k (by omega)
 rw [OY] at h
 have e1:((k+1:Nat):Int) - 1=(k:Int):=by omega
 simp only [e1,Int.toNat_natCast,Nat.zero_add,aE,a1,a6,a7,bx,bD] at h
 rw [dT (show ((k+1:Nat):Int) < (m:Int) by omega),dT (show (0:Int)≤((k+1:Nat):Int) by omega),dT (show (k+1)*3 < us.length by omega),dT (show (k+1)*3+1 < us.length by omega),dT (show (k+1)*3+1+1 < us.length by omega),aM (z:=(k:Int)) (by omega),dT (show (0:Int)≤(k:Int) by omega),dT (show (k:Int) < (m:Int) by omega),
  dT (show k*3 < us.length by omega),dT (show k*3+1 < us.length by omega),dT (show k*3+1+1 < us.length by omega),dT (show ((k+1:Nat):Int)≤(m:Int) by omega),aM (z:=((k+1:Nat):Int)+1) (by omega)] at h
 have b3:(az (.bool (af.qn (qt us (k+1))))==az (.bool (af.qn (qt us k)))&&(aG (ah (.string (af.qs (qt us (k+1))))) (ah (.string (af.qs (qt us k))))&&(aG (ah (.string (af.qd (qt us (k+1))))) (ah (.string (af.qd (qt us k))))&&true)))=decide (qt us (k+1)=qt us k):=OR _ _
 rw [b3] at h
 constructor
 ·intro G
  rw [decide_eq_false G] at h
  exact h.symm
 ·intro G b0
  have b1:aQ (qt us) (k+1+1)=(List.range (k+1)).map (qt us):=by
   show (if _ then _ else _)=_
   rw [if_pos ⟨by omega,by rw [Nat.add_sub_cancel];exact G⟩,b0]
  have O:uZ m ((k+1:Nat):Int) ((k+1)*3) (m - (k+1)) 1 us:= ⟨k+1,rfl,rfl,rfl,rfl,by omega,M,b2,I,b1⟩
  obtain ⟨U,J⟩:=(N1 _ _ _ _ _ _ O).2
  have b4:=J.len
  have b5:=J.k1
  have Z:=J.pre
  rw [decide_eq_true G,VZ _ _ _ _ _ _ O] at h
  generalize kg m ((k+1:Nat):Int) ((k+1)*3) (m - (k+1)) 1 us=ρ at*
  obtain ⟨b7,ch,ab⟩:=ρ
  simp only at U J b4 b5 Z h
  subst U
  simp only [Int.toNat_natCast,Nat.sub_zero] at h
  rw [dT (show (0:Int)≤((aQ (qt us) m).length:Int) by omega),dT (show ((aQ (qt us) m).length:Int)≤(m:Int) by omega),dT (show 0 < m - (aQ (qt us) m).length by omega),dT (show (aQ (qt us) m).length*3+(m - (aQ (qt us) m).length)*3≤ab.length by omega),Z,List.drop_eq_nil_of_le (show ab.length≤(aQ (qt us) m).length*3+(m - (aQ (qt us) m).length)*3 by omega),List.append_nil] at h
  exact h.symm
end
def p7 (S:Nat→Rat) (m:Nat):Prop:=∀ i,0 < i→i < m→S i≠S (i - 1)
section
variable {m : Nat} {us : List Value}
theorem Uv (I:m≤1000000) (M:us=cp m (qt us)) (J:p7 (qt us) m) (r:Nat):∀ k:Nat,m=k+1+r→bT Tryz.prog 1 (lb 67 ek) (gK m ((k+1:Nat):Int) us) (fV m ((k+1:Nat):Int) us) (.exit 0) (gK m (m:Int) us) (fV m (m:Int) us):=by
 induction r with
 | zero=>
  intro k G
  have:m=k+1:=by omega
  subst this
  refine .last (Ac ?_) (by intro h;cases h)
  rw [OY,dF (show ¬ ((k+1:Nat):Int) < ((k+1:Nat):Int) by omega)]
  rfl
 | succ r O=>
  intro k G
  exact .more (Ac ((CM I M k (by omega) rfl).1 (J (k+1) (by omega) (by omega)))) (O (k+1) (by omega))
theorem WV (G:m≤1000000) (J:us=cp m (qt us)) (d:Nat) (M:d+1 < m) (O:qt us (d+1)=qt us d) (I:p7 (qt us) (d+1)) (r:Nat):∀ k:Nat,d=k+r→bT Tryz.prog 1 (lb 67 ek) (gK m ((k+1:Nat):Int) us) (fV m ((k+1:Nat):Int) us) .ret (ar 61 [(0, .sl false 27 0 0 m),(2, .sl false 27 0 0 (aQ (qt us) m).length),(3, .val (.int .i64 ((aQ (qt us) m).length:Int)))]) [.row (.vals (aL (aQ (qt us) m) ++ oZ (m - (aQ (qt us) m).length) [.val (.bool false), .val (.string (ByteArray.mk #[])), .val (.string (ByteArray.mk #[]))])) 27 .live]:=by
 induction r with
 | zero=>
  intro k U
  have:d=k:=by omega
  subst this
  exact .last (Ac ((CM G J d M rfl).2 O (C0 _ I))) (by intro h;cases h)
 | succ r Z=>
  intro k U
  exact .more (Ac ((CM G J k (by omega) rfl).1 (I (k+1) (by omega) (by omega)))) (Z (k+1) (by omega))
end
def zH (m:Nat) (k:Int) (us:List Value):Prop:=k=1∧0 < m∧m≤1000000∧us=cp m (qt us)∧p7 (qt us) m
def Eu (m:Nat) (k:Int) (us:List Value) (ρ:Int):Prop:=True
theorem aap (m:Nat) (k:Int) (us:List Value) (h:zH m k us):∃ ρ:Int,bT Tryz.prog 1 (lb 67 ek) (gK m k us) (fV m k us) (.exit 0) (gK m ρ us) (fV m ρ us)∧Eu m k us ρ:=by
 obtain ⟨rfl,M,G,J,I⟩:=h
 exact ⟨_,Uv G J I (m - 1) 0 (by omega),trivial⟩
def G1 (I:Nat→Int→List Value→Bool) (G:Nat→Int→List Value→Int) (T:List AV) (H:Hp):Option (Bool×Ex×List AV×Hp):=
 match al T 0,al T 2,al T 3,H with
 | .sl false 27 0 0 m, .val (.slice none 0 0), .val (.int .i64 k), [.row (.vals us) 27 .live]=>bif T.length==61 then some (I m k us, .exit 0,gK m ((G m k us)) us,fV m ((G m k us)) us) else none
 | _,_,_,_=>none
abbrev Js:Type:=Nat→Int→List Value→Bool
abbrev IU:Type:=Nat→Int→List Value→Int
def B2 (G:Js) (I:IU) (L:aC):aC:=bp 1 67 ek [0,2,3] (G1 G I) L
def r6 (m:Nat) (k:Int) (us:List Value):Int:=Classical.epsilon fun ρ=>bT Tryz.prog 1 (lb 67 ek) (gK m k us) (fV m k us) (.exit 0) (gK m (ρ) us) (fV m (ρ) us)∧Eu m k us ρ
theorem ack (m:Nat) (k:Int) (us:List Value) (h:zH m k us):bT Tryz.prog 1 (lb 67 ek) (gK m k us) (fV m k us) (.exit 0) (gK m ((r6 m k us)) us) (fV m ((r6 m k us)) us)∧Eu m k us (r6 m k us):=Classical.epsilon_spec (aap m k us h)
def xP (m:Nat) (k:Int) (us:List Value):Bool:= @decide (zH m k us) (Classical.propDecidable _)
theorem VY (m:Nat) (k:Int) (us:List Value) (h:zH m k us):xP m k us=true:= @decide_eq_true _ (Classical.propDecidable _) h
theorem af0 (T:List AV) (H:Hp) (e:Ex) (J:List AV) (I:Hp) (h:G1 xP r6 T H=some (true,e,J,I)):V.Ends Tryz.prog false 1 0 (.loop (lb 67 ek)) T H e J I:=by
 unfold G1 at h
 split at h
 ·rename_i m k us U Z ab
  rw [Bool.cond_eq_ite] at h
  split at h
  ·rename_i M
   rw [beq_iff_eq] at M
   simp only [Option.some.injEq,Prod.mk.injEq,Bool.and_eq_true,decide_eq_true_eq] at h
   obtain ⟨k1,rfl,rfl,rfl⟩:=h
   have a1:= @of_decide_eq_true _ (Classical.propDecidable _) k1
   refine Ends.pre (ack m k us a1).1.ends (fun α B w D a6 aE=>bq M (fun p O y G=> ?_) aE)
   simp only [List.mem_cons,List.not_mem_nil,or_false] at O
   rcases O with rfl | rfl | rfl
   ·rw [U] at G;exact G
   ·rw [Z] at G;exact G
   ·rw [ab] at G;exact G
  ·cases h
 ·cases h
theorem RO {L:aC} (h:aB Tryz.prog L):aB Tryz.prog (B2 xP r6 L):=h.bz Th af0
abbrev qc:List Bool:= [false,true,false,true,true]
def FI (m:Nat) (k:Int) (us:List Value):List AV:=ar 61 [(0, .sl false 27 0 0 m),(2, .val (.slice none 0 0)),(3, .val (.int .i64 k))]
def DH (m:Nat) (k:Int) (us:List Value):Hp:= [.row (.vals us) 27 .live]
theorem Tj:aH Tryz.prog 67 qc=some (.loop (lb 67 qc)):=by kernel_rfl
def z6 (m p:Nat) (k:Int) (us:List Value):List AV:=ar 61 [(0, .sl false 27 0 0 m),(2, .sl false 27 0 0 p),(3, .val (.int .i64 k))]
def yE (m p:Nat) (k:Int) (us:List Value):Hp:= [.row (.vals us) 27 .live]
def u0 (m:Nat) (k:Int) (us:List Value):Prop:=k=1∧0 < m∧m≤1000000∧us=cp m (qt us)∧∃ d,d+1 < m∧qt us (d+1)=qt us d∧p7 (qt us) (d+1)
def Ew (m:Nat) (k:Int) (us:List Value) (ρ:Nat×Int×List Value):Prop:=ρ.1=(aQ (qt us) m).length∧ρ.2.2=aL (aQ (qt us) m) ++ oZ (m - (aQ (qt us) m).length) [.val (.bool false), .val (.string (ByteArray.mk #[])), .val (.string (ByteArray.mk #[]))]
theorem aar (m:Nat) (k:Int) (us:List Value) (h:u0 m k us):∃ ρ:Nat×Int×List Value,bT Tryz.prog 1 (lb 67 qc) (FI m k us) (DH m k us) .ret (z6 m ρ.1 ρ.2.1 ρ.2.2) (yE m ρ.1 ρ.2.1 ρ.2.2)∧Ew m k us ρ:=by
 obtain ⟨rfl,U,J,O,d,G,I,M⟩:=h
 exact ⟨((aQ (qt us) m).length,((aQ (qt us) m).length:Int),_),WV J O d G I M d 0 (by omega),rfl,rfl⟩
def G3 (I:Nat→Int→List Value→Bool) (G:Nat→Int→List Value→Nat×Int×List Value) (T:List AV) (H:Hp):Option (Bool×Ex×List AV×Hp):=
 match al T 0,al T 2,al T 3,H with
 | .sl false 27 0 0 m, .val (.slice none 0 0), .val (.int .i64 k), [.row (.vals us) 27 .live]=>bif T.length==61 then some (I m k us, .ret,z6 m ((G m k us).1) ((G m k us).2.1) ((G m k us).2.2),yE m ((G m k us).1) ((G m k us).2.1) ((G m k us).2.2)) else none
 | _,_,_,_=>none
abbrev Jv:Type:=Nat→Int→List Value→Bool
abbrev IW:Type:=Nat→Int→List Value→Nat×Int×List Value
def B3 (G:Jv) (I:IW) (L:aC):aC:=bp 1 67 qc [0,2,3] (G3 G I) L
def mc (m:Nat) (k:Int) (us:List Value):Nat×Int×List Value:=Classical.epsilon fun ρ=>bT Tryz.prog 1 (lb 67 qc) (FI m k us) (DH m k us) (.ret) (z6 m (ρ.1) (ρ.2.1) (ρ.2.2)) (yE m (ρ.1) (ρ.2.1) (ρ.2.2))∧Ew m k us ρ
theorem N2 (m:Nat) (k:Int) (us:List Value) (h:u0 m k us):bT Tryz.prog 1 (lb 67 qc) (FI m k us) (DH m k us) (.ret) (z6 m ((mc m k us).1) ((mc m k us).2.1) ((mc m k us).2.2)) (yE m ((mc m k us).1) ((mc m k us).2.1) ((mc m k us).2.2))∧Ew m k us (mc m k us):=Classical.epsilon_spec (aar m k us h)
def xQ (m:Nat) (k:Int) (us:List Value):Bool:= @decide (u0 m k us) (Classical.propDecidable _)
theorem V0 (m:Nat) (k:Int) (us:List Value) (h:u0 m k us):xQ m k us=true:= @decide_eq_true _ (Classical.propDecidable _) h
theorem af2 (T:List AV) (H:Hp) (e:Ex) (J:List AV) (I:Hp) (h:G3 xQ mc T H=some (true,e,J,I)):V.Ends Tryz.prog false 1 0 (.loop (lb 67 qc)) T H e J I:=by
 unfold G3 at h
 split at h
 ·rename_i m k us U Z ab
  rw [Bool.cond_eq_ite] at h
  split at h
  ·rename_i M
   rw [beq_iff_eq] at M
   simp only [Option.some.injEq,Prod.mk.injEq,Bool.and_eq_true,decide_eq_true_eq] at h
   obtain ⟨k1,rfl,rfl,rfl⟩:=h
   have a1:= @of_decide_eq_true _ (Classical.propDecidable _) k1
   refine Ends.pre (N2 m k us a1).1.ends (fun α B w D a6 aE=>bq M (fun p O y G=> ?_) aE)
   simp only [List.mem_cons,List.not_mem_nil,or_false] at O
   rcases O with rfl | rfl | rfl
   ·rw [U] at G;exact G
   ·rw [Z] at G;exact G
   ·rw [ab] at G;exact G
  ·cases h
 ·cases h
theorem RQ {L:aC} (h:aB Tryz.prog L):aB Tryz.prog (B3 xQ mc L):=h.bz Tj af2
theorem VT (G:Js) (I:IU) (m:Nat) (us:List Value):xG Tryz.prog ⟨aK,au,B2 G I aq⟩ 10 10 67 [.sl false 27 0 0 m] [.row (.vals us) 27 .live]=
  (bif decide ((↑m:Int) < 2) then some ((.sl false 27 0 0 m), [(.row (.vals us) 27 .live)]) else (bif G m (1:Int) us then some ((.sl false 27 0 0 m), [(.row (.vals us) 27 .live)]) else none)):=by kernel_rfl
theorem VU (I:Jv) (G:IW) (m:Nat) (us:List Value):xG Tryz.prog ⟨aK,au,B3 I G aq⟩ 10 10 67 [.sl false 27 0 0 m] [.row (.vals us) 27 .live]=
  (bif decide ((↑m:Int) < 2) then some ((.sl false 27 0 0 m), [(.row (.vals us) 27 .live)]) else (bif I m (1:Int) us then some ((.sl false 27 0 0 ((G m (1:Int) us).fst)), [(.row (.vals ((G m (1:Int) us).snd.snd)) 27 .live)]) else none)):=by kernel_rfl
end
end Go.Proofs.YtamcpiicmfielaaGreat.L
namespace Go.Proofs.YtamcpiicmfielaaGreat.L
open Go Go.V Go.RowKit Go.Shelf Go.Proofs.YtamcpiicmfielaaGreat.Sp
open Go.Proofs (Tryz.prog)
noncomputable section
structure SQ where
 val:Rat
 sz:cK val≤1000
theorem SQ.eq {x y:SQ} (h:x.val=y.val):x=y:=by cases x;cases y;cases h;rfl
instance:Inhabited SQ:= ⟨⟨0,Nat.le_trans afS (by decide)⟩⟩
def rA (x:SQ):List Value:=dD x.val
def pA (x y:SQ):Int:=af.cq x.val y.val
def rM (x y:Rat):Bool:=decide (x≤y)
theorem uK (x y:SQ):ltOf pA x y=decide (x.val < y.val):=by
 have h:pA x y < 0↔x.val < y.val:=by
  show iG x.val y.val < 0↔_
  unfold iG
  split
  ·rename_i h;exact ⟨fun _=>h,fun _=>by omega⟩
  ·split
   ·rename_i G I;exact ⟨fun h=>by omega,fun h=>absurd h G⟩
   ·rename_i G I;exact ⟨fun h=>by omega,fun h=>absurd h G⟩
 unfold ltOf
 by_cases G:x.val < y.val
 ·rw [decide_eq_true G];exact @decide_eq_true _ (Int.decLt _ _) (h.2 G)
 ·rw [decide_eq_false G];exact @decide_eq_false _ (Int.decLt _ _) (fun I=>G (h.1 I))
theorem afN:Go.Sort.SWO (ltOf pA) where
 irrefl x:=by rw [uK,decide_eq_false_iff_not];grind
 trans x y z G I:=by rw [uK,decide_eq_true_eq] at *;grind
 ntrans x y z G I:=by rw [uK,decide_eq_false_iff_not] at *;grind
theorem UT (x y:SQ) (W:World):Calls Tryz.prog 23 #[.agg (rA x).toArray, .agg (rA y).toArray] W fun e w'=>e= .returned (.int .i64 (pA x y))∧bw W.heap.size W w':=by
 have J:=x.sz
 have M:=y.sz
 have h:=pC [.agg [.val (.bool (af.qn x.val)), .val (.string (af.qs x.val)), .val (.string (af.qd x.val))], .agg [.val (.bool (af.qn y.val)), .val (.string (af.qs y.val)), .val (.string (af.qd y.val))]] (.val (.int .i64 (pA x y)))
  (by
   show some (af.ok (af.qs x.val) (af.qd x.val)&&af.ok (af.qs y.val) (af.qd y.val),AV.val (.int .i64 (af.cq (af.qv (af.qn x.val) (af.qs x.val) (af.qd x.val)) (af.qv (af.qn y.val) (af.qs y.val) (af.qd y.val)))))=_
   rw [rW (q:=x.val) (by omega),rW (q:=y.val) (by omega),fK,fK];rfl)
  (fun _=>False) W #[.agg (rA x).toArray, .agg (rA y).toArray] (fun _ h=>h.elim) ⟨_,_,rfl,Ky _ _ _ _ _,_,_,rfl,Ky _ _ _ _ _,rfl⟩
 refine h.mono ?_
 rintro e w' ⟨v,rfl,I,G⟩
 have G:v= .int .i64 (pA x y):=G
 exact ⟨by rw [G],I⟩
theorem aeP {l:List Rat} (ab:∀ x ∈ l,cK x≤1000) (Z:0 < l.length) (aE:l.length≤1000000) {fl:Bool} {i:Nat} {H:Hp} (I:H[i]? =some (.row (.vals (aL l)) 27 .live)):
  dg Tryz.prog 66 [.sl fl 27 i 0 l.length, .val (.func (.func 23) #[] #[])] H (.tup []) (H.set i (.row (.vals (aL (l.mergeSort rM))) 27 .live)):=by
 obtain ⟨G,rfl⟩:∃ G:List SQ,G.map SQ.val=l:= ⟨l.attach.map fun x=> ⟨x.1,ab x.1 x.2⟩,by rw [List.map_map];exact List.attach_map_subtype_val l⟩
 have e1:∀ k:List SQ,aL (k.map SQ.val)=k.flatMap rA:=fun k=>by
  unfold aL
  rw [List.flatMap_map];rfl
 have M:(G.map SQ.val).mergeSort rM=(G.mergeSort fun x y=> !ltOf pA y x).map SQ.val:=by
  refine (List.map_mergeSort (f:=SQ.val) (l:=G) fun a _ b _=> ?_).symm
  rw [uK]
  show (!decide (b.val < a.val))=decide (a.val≤b.val)
  by_cases h:a.val≤b.val
  ·rw [decide_eq_true h,decide_eq_false (by grind)];rfl
  ·rw [decide_eq_false h,decide_eq_true (by grind)];rfl
 rw [e1] at I
 rw [List.length_map] at*
 rw [M,e1]
 exact aeQ (k:=3) ZJ (fun w=>by kernel_rfl) (fun w=>by kernel_rfl) (fun _=>rfl) (fun x v J=>by
  simp only [rA,dD,List.mem_cons,List.not_mem_nil,or_false] at J
  rcases J with rfl | rfl | rfl <;> rfl) afN (fun x y O U=>by
  rw [uK,decide_eq_false_iff_not] at O U
  exact SQ.eq (by grind)) (enters_of Tryz.func23 (by kernel_rfl) rfl) UT Z (by omega) I
def gT (m:Nat) (us:List Value):List Value:=aL (aQ (qt us) m) ++ oZ (m - (aQ (qt us) m).length) [.val (.bool false), .val (.string (ByteArray.mk #[])), .val (.string (ByteArray.mk #[]))]
theorem WS {m:Nat} {us:List Value} (M:us=cp m (qt us)) (J:p7 (qt us) m):(aQ (qt us) m).length=m∧gT m us=us:=by
 have G:=C0 m J
 have I:(aQ (qt us) m).length=m:=by rw [G,List.length_map,List.length_range]
 refine ⟨I, ?_⟩
 unfold gT
 rw [I,Nat.sub_self,G,← tD,← M]
 show us ++ []=us
 rw [List.append_nil]
theorem PT {D:Nat→Prop} {α α':Nat→Nat×Nat} {B B':Nat→Prop} {w:World} {fl:Bool} {t:TypeId} {i off n:Nat} {y:Value} (h:(AV.sl fl t i off n).Rel Tryz.prog α B w D y) {D':Nat→Prop} {j:Nat} (J:D' j) (ha:α' j=α i):(AV.sl fl t j off n).Rel Tryz.prog α' B' w D' y:=by
 obtain ⟨_,cap,o,G,I⟩:=h
 exact ⟨J,cap,o,by rw [ha];exact G,by rw [ha];exact I⟩
theorem K9 {m c:Nat} {us I:List Value} {rest:Hp} (O:dg Tryz.prog 67 [.sl false 27 0 0 m] [.row (.vals us) 27 .live] (.sl false 27 0 0 c) (.row (.vals I) 27 .live :: rest)) {i:Nat} {H:Hp} (M:H[i]? =some (.row (.vals us) 27 .live)):
  dg Tryz.prog 67 [.sl false 27 i 0 m] H (.sl false 27 i 0 c) (H.set i (.row (.vals I) 27 .live)):=
 Uz O M (fun D α B w U h=>by
  obtain ⟨y,zs,rfl,G,J⟩:=h
  exact ⟨G.1,y,zs,rfl,PT G rfl rfl,J⟩) (fun D D' α α' B B' w y h hi ha=>PT h hi ha.symm)
theorem K8 {m:Nat} {us:List Value} (ab:m≤1000000) (O:us=cp m (qt us)) {i:Nat} {H:Hp} (Z:H[i]? =some (.row (.vals us) 27 .live)):
  dg Tryz.prog 67 [.sl false 27 i 0 m] H (.sl false 27 i 0 (aQ (qt us) m).length) (H.set i (.row (.vals (gT m us)) 27 .live)):=by
 by_cases M:p7 (qt us) m
 ·obtain ⟨G,I⟩:=WS O M
  rw [G,I]
  refine K9 (rest:= []) (KO (E:= ⟨aK,au,B2 xP r6 aq⟩) (aJ _) (RO aB.none).ok mixed (u:=10) (d:=10) (by kernel_rfl) ?_) Z
  rw [VT]
  by_cases U:m < 2
  ·rw [dT (show (m:Int) < 2 by omega)];rfl
  ·rw [dF (show ¬ (m:Int) < 2 by omega),VY _ _ _ ⟨rfl,by omega,ab,O,M⟩];rfl
 ·have a7:∃ d,d+1 < m∧qt us (d+1)=qt us d:=by
   refine Classical.byContradiction fun b0=>M fun j bx b4 J=>b0 ⟨j - 1,by omega, ?_⟩
   rw [show j - 1+1=j by omega];exact J
  obtain ⟨a1,a6⟩:=a7
  obtain ⟨d, ⟨G,I⟩,U⟩:=least (p:=fun d=>d+1 < m∧qt us (d+1)=qt us d) a1 a6
  have bD:p7 (qt us) (d+1):=fun j bx b3 J=>U (j - 1) (by omega) ⟨by omega,by rw [show j - 1+1=j by omega];exact J⟩
  have aE:u0 m 1 us:= ⟨rfl,by omega,ab,O,d,G,I,bD⟩
  obtain ⟨b1,b2⟩:=(N2 _ _ _ aE).2
  refine K9 (rest:= []) (KO (E:= ⟨aK,au,B3 xQ mc aq⟩) (aJ _) (RQ aB.none).ok mixed (u:=10) (d:=10) (by kernel_rfl) ?_) Z
  rw [VU,dF (show ¬ (m:Int) < 2 by omega),V0 _ _ _ aE,b1,b2];rfl
end
end Go.Proofs.YtamcpiicmfielaaGreat.L
