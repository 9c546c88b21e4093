import Derived.Test.YtamcpiicmfielaaGreatZV2
import Derived.Shelf.SlSortCmp.NoneTotal
import Derived.Test.YtamcpiicmfielaaGreatZQA
import Derived.Test.YtamcpiicmfielaaGreatZHX
import Derived.Test.YtamcpiicmfielaaGreatZHZ
set_option linter.unusedVariables false
set_option linter.unusedSimpArgs false
namespace Go.V
open Go Go.RowKit
section
variable {P : Program}
theorem aef {D:Nat→Prop} {α:Nat→Nat×Nat} {B:Nat→Prop} {w:World} {us G:List Value} (h:aj P α B w (us.map .val) D G):G=us:=by
 have:=aj.wI (P:=P) (List.all_eq_true.2 fun x I=>by obtain ⟨v,_,rfl⟩:=List.mem_map.1 I;rfl) h
 rw [this,List.map_map]
 exact List.map_id _
theorem I6 {D D':Nat→Prop} {α α':Nat→Nat×Nat} {B B':Nat→Prop} {w:World} {us:List Value} {ty:TypeId} {a:Nat×Nat} (h:cO P α B w D (.row (.vals us) ty .live) a):cO P α' B' w D' (.row (.vals us) ty .live) a:=by
 rcases h with h | ⟨cs,fr,I,J,M,O,G⟩
 ·cases h
 ·have G:aj P α B w (us.map .val) D _:=G
  refine .inr ⟨cs,fr,I,J,M,O, ?_⟩
  rw [aef G]
  exact aj.vals _
theorem St {g:FuncId} {ct args:List AV} {us U:List Value} {ty:TypeId} {dy v:AV} {rest:Hp} (eo:df P g ct [.row (.vals us) ty .live] dy (.row (.vals U) ty .live :: rest))
  {H:Hp} {i:Nat} (c4:H[i]? =some (.row (.vals us) ty .live))
  (eb:∀ (D:Nat→Prop) (α:Nat→Nat×Nat) (B:Nat→Prop) (w:World) (ea:List Value),aj P α B w args D ea→D i∧aj P (fun _=>α i) B w ct (fun j=>j=0) ea)
  (eg:∀ (D D':Nat→Prop) (α α':Nat→Nat×Nat) (B B':Nat→Prop) (w:World) (y:Value),dy.Rel P α' B' w D' y→D i→α' 0=α i→v.Rel P α B w D y):
  df P g args H v (H.set i (.row (.vals U) ty .live)):=by
 intro B0 w0 D α w e3 M eh
 obtain ⟨hi,ek⟩:=eb D α _ w _ eh
 have ep:=(List.getElem?_eq_some_iff.1 c4).1
 have bx:(H[·]?) i=some (.row (.vals us) ty .live):=c4
 have a6:aN D α (H[·]?) (α i).1:= ⟨i,_,hi,bx,rfl,rfl⟩
 have b2:∀ b,aN (fun j=>j=0) (fun _=>α i) (([.row (.vals us) ty .live]:Hp)[·]?) b↔b=(α i).1:=fun b=> ⟨fun ⟨j,k,J,G,ab,Z⟩=>Z.symm,fun h=> ⟨0,_,rfl,rfl,rfl,h.symm⟩⟩
 obtain ⟨B1,a7⟩:∃ B1:Nat→Prop,B1=fun b=>B0 b∨(aN D α (H[·]?) b∧b≠(α i).1):= ⟨_,rfl⟩
 have ec:Own B1 (fun j=>j=0) (fun _=>α i) (([.row (.vals us) ty .live]:Hp)[·]?)=Own B0 D α (H[·]?):=by
  funext b
  apply propext
  unfold Own
  rw [b2,a7]
  constructor
  ·rintro ((h | h) | rfl)
   ·exact .inl h
   ·exact .inr h.1
   ·exact .inr a6
  ·rintro (h | h)
   ·exact .inl (.inl h)
   ·by_cases hb:b=(α i).1
    ·exact .inr hb
    ·exact .inl (.inr ⟨h,hb⟩)
 have ev:Ok P B1 w0 (fun j=>j=0) (fun _=>α i) (([.row (.vals us) ty .live]:Hp)[·]?) w:=by
  refine ⟨fun j I=> ?_,M.below,fun b hb=> ?_,fun b hb c5=> ?_,fun j I=>M.fresh i hi,fun a b k l ha hb _ _ _ _ _=>ha.trans hb.symm,fun j k I O b1=> ?_,fun j k I O=> ?_⟩
  ·subst I;exact ⟨_,rfl⟩
  ·rw [a7] at hb
   rcases hb with hb | ⟨⟨j,k,J,G,ab,rfl⟩,_⟩
   ·exact M.cN b hb
   ·refine ⟨(M.fresh j J).2,fun ds b0=> ?_⟩
    have c7:=M.cJ j k J G
    cases k with
    | row c t st=>
     rcases c7 with rfl | ⟨cs,fr,e,_⟩
     ·cases ab
     ·rw [e] at b0;cases b0
    | loop r=>
     obtain ⟨L,e,_⟩:=c7
     rw [e] at b0;cases b0
  ·rw [b2] at c5
   rw [a7] at hb
   subst c5
   rcases hb with hb | hb
   ·exact M.sep _ hb a6
   ·exact hb.2 rfl
  ·subst I;cases O;cases b1
  ·subst I;cases O
   exact I6 (M.cJ i _ hi bx)
 have en:=eo B1 w0 (fun j=>j=0) (fun _=>α i) w e3 ev (by rw [ec];exact ek)
 refine en.mono ?_
 rintro e w' ⟨y,D',α',rfl,bD,_,b3,ez⟩
 have c3:D' 0:=b3.le 0 rfl
 have ch:α' 0=α i:=b3.same 0 rfl
 have b4:∀ b o,w.heap[b]? =some o→b≠(α i).1→w'.heap[b]? =some o:=fun b o J G=>(b3.block b o J (fun h=>G ((b2 b).1 h))).2
 have aE:∀ j,(H.set i (.row (.vals U) ty .live))[j]? =if j=i then some (.row (.vals U) ty .live) else H[j]? :=fun j=>by
  by_cases I:j=i
  ·subst I;rw [if_pos rfl,List.getElem?_set_self ep]
  ·rw [if_neg I,List.getElem?_set_ne (Ne.symm I)]
 have b7:aN D α ((H.set i (.row (.vals U) ty .live))[·]?)=aN D α (H[·]?):=by
  funext b
  apply propext
  constructor
  ·rintro ⟨j,k,J,G,ab,Z⟩
   have G:(H.set i (.row (.vals U) ty .live))[j]? =some k:=G
   rw [aE] at G
   split at G
   ·rename_i I;subst I;subst Z;exact a6
   ·exact ⟨j,k,J,G,ab,Z⟩
  ·rintro ⟨j,k,J,G,ab,Z⟩
   by_cases I:j=i
   ·subst I;exact ⟨j,_,J,(aE j).trans (if_pos rfl),rfl,Z⟩
   ·exact ⟨j,k,J,(aE j).trans ((if_neg I).trans G),ab,Z⟩
 have ed:Own B0 D α ((H.set i (.row (.vals U) ty .live))[·]?)=Own B0 D α (H[·]?):=by unfold Own;rw [b7]
 have c6:bA D D α α (aN D α (H[·]?)) (aN D α ((H.set i (.row (.vals U) ty .live))[·]?)) w w':=
  ⟨fun _ h=>h,fun _ _=>rfl,fun b o J G=> ⟨by rw [b7];exact G,b4 b o J (fun h=>G (h ▸ a6))⟩⟩
 have et:∀ j k,D j→H[j]? =some k→j≠i→(k.isLive=true∨k.iG=true)→(α j).1≠(α i).1:=fun j k J G ab Z c0=>by
  rcases Z with Z | Z
  ·exact ab (M.inj j i k _ J hi G bx Z rfl c0)
  ·exact M.db j k J G Z (c0 ▸ .inr a6)
 refine ⟨y,D,α,rfl, ⟨fun j I=> ?_,bD.below,fun b hb=>bD.cN b (by rw [a7];exact .inl hb),fun b hb=>by rw [b7];exact M.sep b hb,fun j I=> ?_,fun a b k l ha hb O b6 J G ab=> ?_,fun j k I O b1=> ?_,fun j k I O=> ?_⟩,fun j I=> .inl I,c6,eg D D' α α' _ _ w' y ez hi ch⟩
 ·show ∃ k,(H.set i (.row (.vals U) ty .live))[j]? =some k
  rw [aE]
  split
  ·exact ⟨_,rfl⟩
  ·exact M.lt j I
 ·refine ⟨(M.fresh j I).1, ?_⟩
  have J:=(M.fresh j I).2
  by_cases G:(α j).1=(α i).1
  ·rw [G,← ch];exact (bD.fresh 0 c3).2
  ·exact (Array.getElem?_eq_some_iff.1 (b4 _ _ (Array.getElem?_eq_getElem J) G)).1
 ·have dx:∀ j k,D j→((H.set i (.row (.vals U) ty .live))[·]?) j=some k→k.isLive=true→∃ k0,(H[·]?) j=some k0∧k0.isLive=true:=fun j k J G ab=>by
   have G:(H.set i (.row (.vals U) ty .live))[j]? =some k:=G
   rw [aE] at G
   split at G
   ·rename_i I;subst I;exact ⟨_,bx,rfl⟩
   ·exact ⟨k,G,ab⟩
  obtain ⟨k0,q1,q2⟩:=dx a k ha O J
  obtain ⟨l0,eN,e2⟩:=dx b l hb b6 G
  exact M.inj a b k0 l0 ha hb q1 eN q2 e2 ab
 ·have O:(H.set i (.row (.vals U) ty .live))[j]? =some k:=O
  rw [aE] at O
  rw [ed]
  split at O
  ·cases O;cases b1
  ·exact M.db j k I O b1
 ·have a1:(H.set i (.row (.vals U) ty .live))[j]? =some k:=O
  clear O
  rw [aE] at a1
  by_cases b5:j=i
  ·subst b5
   rw [if_pos rfl] at a1
   cases a1
   have J:=bD.cJ 0 (.row (.vals U) ty .live) c3 rfl
   rw [ch] at J
   exact I6 J
  ·rw [if_neg b5] at a1
   exact cO.mono (c6.keeps B0) (fun o eu b6=>b4 _ _ eu (et j k I a1 b5 b6)) (M.cJ j k I a1)
noncomputable def wW (P:Program) (E:Env) (u d:Nat) (g:FuncId) (args:List AV) (H:Hp):Option (AV×Hp):=fI P E u d 0 g args H fun v H=>some (v,H)
theorem Je {E:Env} (U:bf P E.C) (I:dg P E) (J:P.follows .mixedOrders=true) {u d:Nat} {g:FuncId} {args:List AV} {H:Hp} {v:AV} {G:Hp} (Z:fQ P g=true) (h:wW P E u d g args H=some (v,G)):df P g args H v G:=by
 unfold wW at h
 cases d with
 | zero=>simp [fI] at h
 | succ d=>
  obtain ⟨aE,ab,M,_,_,O⟩:=BJ (R:=AV×Hp) (qG U I J u d) I J 0 g args H _ _ Z h
  cases M
  exact O
end
end Go.V
namespace Go.V
open Go Go.RowKit Go.Proofs Go.Shelf
open Go.Sort
noncomputable section
variable {P : Program}
theorem WK {w w':World} (h:bm w.heap.size w w'):∃ q ab,w'=grow (w.drewN q) ab:=by
 refine ⟨w'.drawn - w.drawn,w'.heap.extract w.heap.size w'.heap.size, ?_⟩
 obtain ⟨⟨M,O,U,a1,Z⟩,a6⟩:=h
 obtain ⟨G,tp,dr,bx,bD⟩:=w
 obtain ⟨I,b1,J,ab,b0⟩:=w'
 simp only at M O U a1 Z a6
 subst M O U
 have e1:I=G ++ I.extract G.size I.size:=by
  apply Array.ext_getElem?
  intro i
  by_cases hi:i < G.size
  ·rw [Array.getElem?_append_left hi];exact Z i hi
  ·rw [Array.getElem?_append_right (by omega),Array.getElem?_extract]
   by_cases a7:i < I.size
   ·rw [if_pos (by omega),show G.size+(i - G.size)=i by omega]
   ·rw [if_neg (by omega),Array.getElem?_eq_none (by omega)]
 have aE:J=dr+(J - dr):=by omega
 show World.mk I _ J _ _=World.mk (G ++ I.extract G.size I.size) _ (dr+(J - dr)) _ _
 rw [← e1,← aE];rfl
section
variable {β : Type} [Inhabited β] {enc : β → List Value} {k : Nat}
omit [Inhabited β] in
theorem xR (G:∀ x,(enc x).length=k):∀ l:List β,(l.flatMap enc).length=l.length*k
 | []=>by simp
 | x :: l=>by rw [List.flatMap_cons,List.length_append,xR G l,G,List.length_cons,Nat.add_mul,Nat.one_mul,Nat.add_comm]
theorem Kq (G:∀ x,(enc x).length=k):∀ (l:List β) (j:Nat),j < l.length*k→(l.flatMap enc)[j]? =(enc l.toArray[j / k]!)[j % k]?
 | [],j,h=>by simp at h
 | x :: l,j,h=>by
  have I:0 < k:=Nat.pos_of_ne_zero fun I=>by subst I;simp at h
  rw [List.flatMap_cons]
  by_cases J:j < k
  ·rw [List.getElem?_append_left (by rw [G];exact J),Nat.div_eq_of_lt J,Nat.mod_eq_of_lt J]
   simp
  ·rw [List.length_cons,Nat.add_mul,Nat.one_mul] at h
   have M:j / k=(j - k) / k+1:=by rw [Nat.div_eq_sub_div I (by omega)]
   have O:j % k=(j - k) % k:=by rw [Nat.mod_eq_sub_mod (by omega)]
   rw [List.getElem?_append_right (by rw [G];omega),G,Kq G l (j - k) (by omega),M,O]
   simp
theorem Kr (J:∀ x,(enc x).length=k) (l:List β):(flatK enc k l.toArray).toList=l.flatMap enc:=by
 apply List.ext_getElem?
 intro j
 by_cases G:j < l.length*k
 ·have I:0 < k:=Nat.pos_of_ne_zero fun I=>by subst I;simp at G
  have M:=get_flatK enc k l.toArray j (by simpa using G)
  rw [getElem!_pos (flatK enc k l.toArray) j (by simpa using G)] at M
  rw [Kq J l j G,Array.getElem?_toList,Array.getElem?_eq_getElem (by simpa using G),M]
  have O:j % k < (enc l.toArray[j / k]!).length:=by rw [J];exact Nat.mod_lt j I
  rw [List.getElem?_eq_getElem O,getElem!_pos (enc l.toArray[j / k]!) (j % k) O]
 ·rw [List.getElem?_eq_none (by rw [Array.length_toList,size_flatK];simpa using G),List.getElem?_eq_none (by rw [xR J];omega)]
theorem aee {D:Nat→Prop} {α:Nat→Nat×Nat} {B:Nat→Prop} {w:World} {us G:List Value} (h:aj P α B w (us.map .val) D G):G=us:=by
 have:=aj.wI (P:=P) (List.all_eq_true.2 fun x I=>by obtain ⟨v,_,rfl⟩:=List.mem_map.1 I;rfl) h
 rw [this,List.map_map]
 exact List.map_id _
theorem abR {ρ:Ren} (L:SlLaysF0.n6 P ρ) (b6:∀ w,(isAgg (ρ.t 24)).run P w= .ok true w) (e5:∀ w,(Go.sizeOf (ρ.t 24)).run P w= .ok k w) (J:∀ x,(enc x).length=k) (c3:∀ x,∀ v ∈ enc x,v.oneCell'=true) {cf:β→β→Int} (dy:SWO (ltOf cf))
  (ec:∀ x y,ltOf cf x y=false→ltOf cf y x=false→x=y) {g:FuncId} (ct:∀ args w,(callFunc g args).run P w= .ok (.enter g args) w)
  (eg:∀ (x y:β) (W:World),Calls P g #[.agg (enc x).toArray, .agg (enc y).toArray] W fun e w'=>e= .returned (.int .i64 (cf x y))∧bm W.heap.size W w')
  {M:TypeId} {l:List β} {fl:Bool} {i:Nat} {H:Hp} (gf:0 < l.length) (eu:l.length < 4611686018427387904) (U:H[i]? =some (.row (.vals (l.flatMap enc)) M .live)):
  df P (ρ.f 6) [.sl fl M i 0 l.length, .val (.func (.func g) #[] #[])] H (.tup []) (H.set i (.row (.vals ((l.mergeSort fun x y=> !ltOf cf y x).flatMap enc)) M .live)):=by
 intro B0 w0 D α w b5 Z ed
 obtain ⟨y,zs,e,ez,e4,e6,rfl,aE,a1⟩:=ed
 have a1:e6= []:=a1
 subst a1
 have aE:e4= .func (.func g) #[] #[]:=aE
 subst aE
 obtain ⟨hi,cap,gn,q1,q2,hc,ev⟩:=ez
 have eh:cap≠0:=by omega
 obtain ⟨b1,_⟩:=ev.resolve_left eh
 first | rw [b1] at q1 | rw [← b1] at q1
 subst q1
 have O:b5= #[.slice (some ⟨(α i).1,0,none⟩) l.length cap, .func (.func g) #[] #[]]:=by cases b5;simp_all
 subst O
 have b0:=(List.getElem?_eq_some_iff.1 U).1
 obtain ⟨cs,fr,e1,O,a6,a7,b7⟩:=ig Z hi (show (H[·]?) i=_ from U) rfl
 have e7:=xR J l
 have a7:(l.flatMap enc).length≤(α i).2:=a7
 have ch:cs.toList.take (l.flatMap enc).length=l.flatMap enc:=aee b7
 have en:∀ j,j < cs.size→w.frozen? ⟨(α i).1,j,none⟩=false:=fun j I=>by
  have:=a6 rfl j (by omega)
  simp [World.frozen?,e1]
  omega
 have dx:HoldsK enc k w (α i).1 0 l.toArray:=by
  intro j I
  rw [size_flatK] at I
  have fs:j < l.length*k:=by simpa using I
  rw [Nat.zero_add]
  refine ⟨?_,en j (by omega)⟩
  rw [me e1]
  have c4:(flatK enc k l.toArray)[j]? =(l.flatMap enc)[j]? :=by rw [← Kr J l,Array.getElem?_toList]
  rw [getElem!_pos (flatK enc k l.toArray) j (by rw [size_flatK];exact I),id,← Array.getElem?_eq_getElem,c4,← ch,List.getElem?_take,if_pos (by omega),Array.getElem?_toList]
 have eo:=Z.fresh i hi
 have ek:CmpLays P g #[] enc k cf (α i).1 0 l.toArray.size w:=fun m ab dk fh x y=>by
  refine (eg x y _).mono ?_
  rintro e w' ⟨c5,c6⟩
  exact ⟨c5,WK c6⟩
 have bx:=AnyQ.slices_SortFunc_total L k b6 e5 enc J c3 cf dy g #[] (α i).1 0 cap l.toArray w ct ek dx eo.2 (by simpa using eu) ec
 rw [show l.toArray.size=l.length from List.size_toArray] at bx
 refine callsIn_wide.2 (bx.mono ?_)
 rintro e w' ⟨rfl,n,ab,rfl⟩
 have bD:(l.mergeSort fun x y=> !ltOf cf y x).length=l.length:=List.length_mergeSort _
 generalize (l.mergeSort fun x y=> !ltOf cf y x)=G at*
 have c0:=xR J G
 rw [bD] at c0
 have c7:=Kr J G
 have fc:(flatK enc k G.toArray).size=l.length*k:=by rw [size_flatK,List.size_toArray,bD]
 have b3:(putRowK enc k (Go.Sort.ahead w n) (α i).1 0 G.toArray).heap.size=w.heap.size:=Go.Sort.size_putRow _ _ _ _ _
 have b4:∀ b,b≠(α i).1→(putRowK enc k (Go.Sort.ahead w n) (α i).1 0 G.toArray).heap[b]? =w.heap[b]? :=fun b hb=>by
  show (w.heap.modify _ _)[b]? =_
  rw [Array.getElem?_modify,if_neg (fun e=>hb e.symm)]
 have eN:(putRowK enc k (Go.Sort.ahead w n) (α i).1 0 G.toArray).heap[(α i).1]? =some (.cells (Go.Sort.putCells id 0 (flatK enc k G.toArray) cs) M fr):=by
  show (w.heap.modify _ _)[_]? =_
  rw [Array.getElem?_modify,if_pos rfl,e1];rfl
 have e2:(Go.Sort.putCells id 0 (flatK enc k G.toArray) cs).size=cs.size:=by simp [Go.Sort.putCells]
 have e3:(Go.Sort.putCells id 0 (flatK enc k G.toArray) cs).toList.take (G.flatMap enc).length=G.flatMap enc:=by
  apply List.ext_getElem?
  intro j
  rw [List.getElem?_take]
  by_cases I:j < l.length*k
  ·rw [if_pos (by omega),Array.getElem?_toList,← c7,Array.getElem?_toList]
   unfold Go.Sort.putCells
   rw [Array.getElem?_mapIdx,Array.getElem?_eq_getElem (show j < cs.size by omega),Option.map_some,if_pos ⟨Nat.zero_le _,by omega⟩,Nat.sub_zero,getElem!_pos _ j (by omega),Array.getElem?_eq_getElem (by omega)];rfl
  ·rw [if_neg (by omega),List.getElem?_eq_none (by omega)]
 obtain ⟨ea,ep⟩:=yu (w':=putRowK enc k (Go.Sort.ahead w n) (α i).1 0 G.toArray) Z hi (k1:= .row (.vals (G.flatMap enc)) M .live) (show (H[·]?) i=_ from U) rfl rfl b3 b4
  (fun B fa=> ⟨⟨rfl,rfl,rfl,Nat.le_of_eq b3.symm,fun q b2=>b4 q (by omega)⟩,Nat.le_add_right _ _⟩)
  (fun fv=> .inr ⟨_,fr,eN,by rw [e2,O],a6,by show (G.flatMap enc).length≤_;omega,by
   show aj P α _ _ ((G.flatMap enc).map .val) D (List.take (G.flatMap enc).length _)
   rw [e3];exact aj.vals _⟩)
 obtain ⟨eb,et⟩:=nS (w':=grow (putRowK enc k (Go.Sort.ahead w n) (α i).1 0 G.toArray) ab) ea ⟨⟨rfl,rfl,rfl,by show _≤(_ ++ ab).size;rw [Array.size_append];exact Nat.le_add_right _ _,fun q b2=>Array.getElem?_append_left b2⟩,Nat.le_refl _⟩
 exact ⟨.tuple #[],D,α,rfl,by rw [vC H b0];exact eb,fun i hi=> .inl hi,by rw [vC H b0];exact ep.trans et, ⟨#[],rfl,rfl⟩⟩
end
end
end Go.V
namespace Go.Proofs.YtamcpiicmfielaaGreat.L
open Go Go.V Go.RowKit Go.Shelf Go.Proofs.YtamcpiicmfielaaGreat.Sp
open Go.Proofs (Tryz.prog)
noncomputable section
def Xp:Shelf.Ren:= ⟨fun n=>bif n==6 then 66 else bif n==15 then 111 else bif n==14 then 110 else bif n==28 then 150 else bif n==29 then 151 else bif n==20 then 142 else bif n==21 then 143 else bif n==22 then 144 else bif n==23 then 145 else bif n==24 then 146 else bif n==25 then 147 else bif n==26 then 148 else bif n==27 then 149 else bif n==46 then 164 else bif n==47 then 165 else bif n==48 then 166 else bif n==49 then 167 else bif n==50 then 168 else bif n==57 then 173 else n,fun n=>bif n==22 then 22 else bif n==24 then 27 else bif n==25 then 45 else bif n==3 then 3 else bif n==39 then 125 else bif n==0 then 0 else bif n==53 then 129 else bif n==55 then 128 else bif n==4 then 4 else bif n==46 then 149 else bif n==45 then 148 else bif n==50 then 133 else bif n==5 then 5 else bif n==9 then 9 else bif n==66 then 167 else bif n==70 then 171 else bif n==76 then 177 else bif n==77 then 178 else n,fun n=>n⟩
theorem Xo:SlLaysF0.n6 Tryz.prog Xp where
 mixed:=mixed
 f6 := ⟨ "slices.SortFunc[[]narrows/api.Rat,narrows/api.Rat]", by kernel_rfl, by kernel_rfl⟩
 f14 := ⟨ "slices.pdqsortCmpFunc[narrows/api.Rat]", by kernel_rfl, by kernel_rfl⟩
 f15:=by kernel_rfl
 f20 := ⟨ "slices.insertionSortCmpFunc[narrows/api.Rat]", by kernel_rfl, by kernel_rfl⟩
 f21 := ⟨ "slices.heapSortCmpFunc[narrows/api.Rat]", by kernel_rfl, by kernel_rfl⟩
 f22 := ⟨ "slices.breakPatternsCmpFunc[narrows/api.Rat]", by kernel_rfl, by kernel_rfl⟩
 f23 := ⟨ "slices.choosePivotCmpFunc[narrows/api.Rat]", by kernel_rfl, by kernel_rfl⟩
 f24 := ⟨ "slices.reverseRangeCmpFunc[narrows/api.Rat]", by kernel_rfl, by kernel_rfl⟩
 f25 := ⟨ "slices.partialInsertionSortCmpFunc[narrows/api.Rat]", by kernel_rfl, by kernel_rfl⟩
 f26 := ⟨ "slices.partitionEqualCmpFunc[narrows/api.Rat]", by kernel_rfl, by kernel_rfl⟩
 f27 := ⟨ "slices.partitionCmpFunc[narrows/api.Rat]", by kernel_rfl, by kernel_rfl⟩
 f28:=by kernel_rfl
 f29:=by kernel_rfl
 f46 := ⟨ "slices.siftDownCmpFunc[narrows/api.Rat]", by kernel_rfl, by kernel_rfl⟩
 f47:=by kernel_rfl
 f48:=by kernel_rfl
 f49 := ⟨ "slices.medianAdjacentCmpFunc[narrows/api.Rat]", by kernel_rfl, by kernel_rfl⟩
 f50 := ⟨ "slices.medianCmpFunc[narrows/api.Rat]", by kernel_rfl, by kernel_rfl⟩
 f57 := ⟨ "slices.order2CmpFunc[narrows/api.Rat]", by kernel_rfl, by kernel_rfl⟩
 t0:=by kernel_rfl
 a0:=fun w=>by kernel_rfl
 z0:=fun w=>by kernel_rfl
 v0:=fun w=>by kernel_rfl
 t3:=by kernel_rfl
 a3:=fun w=>by kernel_rfl
 z3:=fun w=>by kernel_rfl
 v3:=fun w=>by kernel_rfl
 t4:=by kernel_rfl
 a4:=fun w=>by kernel_rfl
 z4:=fun w=>by kernel_rfl
 v4:=fun w=>by kernel_rfl
 t5:=by kernel_rfl
 a5:=fun w=>by kernel_rfl
 z5:=fun w=>by kernel_rfl
 v5:=fun w=>by kernel_rfl
 t9:=by kernel_rfl
 a9:=fun w=>by kernel_rfl
 z9:=fun w=>by kernel_rfl
 v9:=fun w=>by kernel_rfl
 t22:=by kernel_rfl
 a22:=fun w=>by kernel_rfl
 z22:=fun w=>by kernel_rfl
 v22:=fun w=>by kernel_rfl
 t25:=by kernel_rfl
 a25:=fun w=>by kernel_rfl
 z25:=fun w=>by kernel_rfl
 v25:=fun w=>by kernel_rfl
 t39:=by kernel_rfl
 a39:=fun w=>by kernel_rfl
 z39:=fun w=>by kernel_rfl
 v39:=fun w=>by kernel_rfl
 t45:=by kernel_rfl
 a45:=fun w=>by kernel_rfl
 z45:=fun w=>by kernel_rfl
 v45:=fun w=>by kernel_rfl
 t46:=by kernel_rfl
 a46:=fun w=>by kernel_rfl
 z46:=fun w=>by kernel_rfl
 v46:=fun w=>by kernel_rfl
 t50:=by kernel_rfl
 a50:=fun w=>by kernel_rfl
 z50:=fun w=>by kernel_rfl
 v50:=fun w=>by kernel_rfl
 t53:=by kernel_rfl
 a53:=fun w=>by kernel_rfl
 z53:=fun w=>by kernel_rfl
 v53:=fun w=>by kernel_rfl
 t55:=by kernel_rfl
 a55:=fun w=>by kernel_rfl
 z55:=fun w=>by kernel_rfl
 v55:=fun w=>by kernel_rfl
 t66:=by kernel_rfl
 a66:=fun w=>by kernel_rfl
 z66:=fun w=>by kernel_rfl
 v66:=fun w=>by kernel_rfl
 t70:=by kernel_rfl
 a70:=fun w=>by kernel_rfl
 z70:=fun w=>by kernel_rfl
 v70:=fun w=>by kernel_rfl
 t76:=by kernel_rfl
 a76:=fun w=>by kernel_rfl
 z76:=fun w=>by kernel_rfl
 v76:=fun w=>by kernel_rfl
 t77:=by kernel_rfl
 a77:=fun w=>by kernel_rfl
 z77:=fun w=>by kernel_rfl
 v77:=fun w=>by kernel_rfl
end
end Go.Proofs.YtamcpiicmfielaaGreat.L
namespace Go.Proofs.YtamcpiicmfielaaGreat.L
open Go Go.V Go.RowKit Go.Proofs.YtamcpiicmfielaaGreat.Sp
open Go.Proofs (Tryz.prog)
noncomputable section
abbrev fA:List Bool:= [false,true,false,true,false,true,false,false,true,false,false,true,false,true,true]
def gX (m:Nat) (k:Int) (o q:Nat) (j:Int) (us:List Value):List AV:=ao 61 [(0, .sl false 27 0 0 m),(2, .val (.slice none 0 0)),(3, .val (.int .i64 k)),(4, .sl false 27 0 o q),(5, .val (.int .i64 j))]
def gS (m:Nat) (k:Int) (o q:Nat) (j:Int) (us:List Value):Hp:= [.row (.vals us) 27 .live]
theorem Rg:aI Tryz.prog 67 fA=some (.loop (lb 67 fA)):=by kernel_rfl
theorem S3:aI Tryz.prog 67 (false :: fA)=some (lb 67 fA):=by kernel_rfl
theorem Nk (m:Nat) (k:Int) (o q:Nat) (j:Int) (us:List Value):letI J:=(us.getD (o+j.toNat*3+1) undef);letI I:=(us.getD (o+j.toNat*3+1+1) undef);letI O:=(aF (ag J) (ag (us.getD (o+(j - 1).toNat*3+1) undef))&&(aF (ag I) (ag (us.getD (o+(j - 1).toNat*3+1+1) undef))&&true));letI G:=(us.getD (o+j.toNat*3) undef);letI M:=(us.getD (o+(j - 1).toNat*3) undef);
  (eL Tryz.prog ⟨aM,az,aq⟩ 1 67 [0,2,3,4,5] (lb 67 fA) (false :: fA) (gX m k o q j us) (gS m k o q j us)=(bif decide (j < (↑q:Int)) then (bif decide (0≤j)&&decide (j < (↑q:Int)) then (bif decide (o+j.toNat*3 < us.length) then (bif decide (o+j.toNat*3+1 < us.length) then (bif decide (o+j.toNat*3+1+1 < us.length) then (bif ah IntKind.i64 (j - 1) then (bif decide (0≤j - 1)&&decide (j - 1 < (↑q:Int)) then (bif decide (o+(j - 1).toNat*3 < us.length) then (bif decide (o+(j - 1).toNat*3+1 < us.length) then (bif decide (o+(j - 1).toNat*3+1+1 < us.length) then (bif dh G&&dh M then (bif bP J&&bP (us.getD (o+(j - 1).toNat*3+1) undef) then (bif bP I&&bP (us.getD (o+(j - 1).toNat*3+1+1) undef) then (bif bif true then !(ar G==ar M&&O) else ar G==ar M&&O then (bif decide (0≤j)&&decide (j < (↑q:Int)) then (bif decide (o+j.toNat*3 < us.length) then (bif decide (o+j.toNat*3+1 < us.length) then (bif decide (o+j.toNat*3+1+1 < us.length) then (bif decide (0≤k)&&decide (k < (↑m:Int)) then (bif [AV.val G,AV.val J,AV.val I].all aS then (bif decide (0+k.toNat*3+3≤us.length) then (bif ah IntKind.i64 (k+1) then (bif ah IntKind.i64 (j+1) then some (.normal,ao 61 [(0,(.sl false 27 0 0 m)),(2,(.val (.slice .none 0 0))),(3,(.val (.int .i64 (k+1)))),(4,(.sl false 27 0 o q)),(5,(.val (.int .i64 (j+1))))], [(.row (.vals (((List.take (0+k.toNat*3) us) ++ ([G,J,I]:List Value)) ++ (List.drop (0+k.toNat*3+3) us))) 27 .live)]) else none) else none) else none) else none) else none) else none) else none) else none) else none) else (bif ah IntKind.i64 (j+1) then some (.normal,ao 61 [(0,(.sl false 27 0 0 m)),(2,(.val (.slice .none 0 0))),(3,(.val (.int .i64 k))),(4,(.sl false 27 0 o q)),(5,(.val (.int .i64 (j+1))))], [(.row (.vals us) 27 .live)]) else none)) else none) else none) else none) else none) else none) else none) else none) else none) else none) else none) else none) else none) else some ((.exit 2),ao 61 [(0,(.sl false 27 0 0 m)),(2,(.val (.slice .none 0 0))),(3,(.val (.int .i64 k))),(4,(.sl false 27 0 o q)),(5,(.val (.int .i64 j)))], [(.row (.vals us) 27 .live)]))):=by kernel_rfl
theorem EX {m:Nat} {k:Int} {o q:Nat} {j:Int} {us:List Value} {e:Ex} {T:List AV} {H:Hp} (h:eL Tryz.prog ⟨aM,az,aq⟩ 1 67 [0,2,3,4,5] (lb 67 fA) (false :: fA) (gX m k o q j us) (gS m k o q j us)=some (e,T,H)):V.Ends Tryz.prog false 1 0 (lb 67 fA) (gX m k o q j us) (gS m k o q j us) e T H:=
 pF (aK _) aO mixed S3 h
def aV (l:List Rat):List Value:=l.flatMap iO
theorem BN (l:List Rat):(aV l).length=l.length*3:=by
 induction l with
 | nil=>rfl
 | cons x l G=>show (iO x ++ aV l).length=_;rw [List.length_append,G,List.length_cons];show 3+_=_;omega
theorem BM (l k:List Rat):aV (l ++ k)=aV l ++ aV k:=List.flatMap_append
theorem qz (n:Nat) (q:Nat→Rat):bZ n q=aV ((List.range n).map q):=by
 unfold bZ aV
 rw [List.flatMap_map]
def aR (S:Nat→Rat):Nat→List Rat
 | 0=> []
 | p+1=>if p≠0∧S p=S (p - 1) then aR S p else aR S p ++ [S p]
section
variable {S : Nat → Rat} {m p : Nat} {us : List Value}
theorem BY:∀ p,(aR S p).length≤p
 | 0=>Nat.le_refl _
 | p+1=>by
  unfold aR
  have:=BY p
  split
  ·omega
  ·rw [List.length_append];show _+1≤_;omega
theorem BZ:∀ p,(∀ i,0 < i→i < p→S i≠S (i - 1))→aR S p=(List.range p).map S
 | 0,_=>rfl
 | p+1,h=>by
  unfold aR
  rw [if_neg (fun ⟨G,I⟩=>h p (Nat.pos_of_ne_zero G) (by omega) I),BZ p (fun i G I=>h i G (by omega)),List.range_succ,List.map_append];rfl
structure gF (S:Nat→Rat) (m p:Nat) (us:List Value):Prop where
 len:us.length=m*3
 k1:(aR S p).length < p
 pre:us.take ((aR S p).length*3)=aV (aR S p)
 rest:∀ i,p≤i+1→i < m→∀ c,c < 3→us.getD (i*3+c) undef=(iO (S i)).getD c undef
theorem gF.same (h:gF S m p us) (J:0 < p) (I:S p=S (p - 1)):gF S m (p+1) us:=by
 have e:aR S (p+1)=aR S p:=by
  show (if _ then _ else _)=_
  rw [if_pos ⟨by omega,I⟩]
 exact ⟨h.len,by rw [e];have:=h.k1;omega,by rw [e];exact h.pre,fun i M G=>h.rest i (by omega) G⟩
theorem gF.more (h:gF S m p us) (ab:p < m) (M:S p≠S (p - 1)):gF S m (p+1) (us.take ((aR S p).length*3) ++ iO (S p) ++ us.drop ((aR S p).length*3+3))∧(aR S (p+1)).length=(aR S p).length+1:=by
 have e:aR S (p+1)=aR S p ++ [S p]:=by
  show (if _ then _ else _)=_
  rw [if_neg (fun h=>M h.2)]
 have O:=h.k1
 have Z:=h.len
 have G:(aR S (p+1)).length=(aR S p).length+1:=by rw [e,List.length_append];rfl
 have l1:(us.take ((aR S p).length*3)).length=(aR S p).length*3:=by rw [List.length_take];omega
 have l2:(us.take ((aR S p).length*3) ++ iO (S p)).length=(aR S p).length*3+3:=by rw [List.length_append,l1];rfl
 refine ⟨⟨?_,by omega, ?_,fun i U I c J=> ?_⟩,G⟩
 ·rw [List.length_append,l2,List.length_drop];omega
 ·rw [G,show ((aR S p).length+1)*3=(us.take ((aR S p).length*3) ++ iO (S p)).length by rw [l2];omega,List.take_left' rfl,e,BM,← h.pre]
  show _=_ ++ (iO (S p) ++ [])
  rw [List.append_nil]
 ·rw [List.getD_eq_getElem?_getD,List.getElem?_append_right (by rw [l2];omega),l2,List.getElem?_drop,show (aR S p).length*3+3+(i*3+c - ((aR S p).length*3+3))=i*3+c by omega,← List.getD_eq_getElem?_getD]
  exact h.rest i (by omega) I c J
end
theorem Nd (x y:Rat):(ad.qn x==ad.qn y&&(aF (ad.qs x) (ad.qs y)&&(aF (ad.qd x) (ad.qd y)&&true)))=decide (x=y):=by
 by_cases h:x=y
 ·subst h
  rw [beq_self_eq_true,kA,kA,decide_eq_true rfl];rfl
 ·rw [decide_eq_false h,Bool.eq_false_iff]
  intro G
  simp only [Bool.and_eq_true,beq_iff_eq,r4,and_true,decide_eq_true_eq] at G
  obtain ⟨I,J,M⟩:=G
  apply h
  rw [← dN x,← dN y,I,J,M]
theorem gF.at {S:Nat→Rat} {m p:Nat} {us:List Value} (h:gF S m p us) (i:Nat) (G:p≤i+1) (I:i < m):us.getD (i*3) undef= .bool (ad.qn (S i))∧us.getD (i*3+1) undef= .string (ad.qs (S i))∧us.getD (i*3+1+1) undef= .string (ad.qd (S i)):=
 ⟨h.rest i G I 0 (by decide),h.rest i G I 1 (by decide),h.rest i G I 2 (by decide)⟩
section
variable {S : Nat → Rat} {m k0 : Nat} {us : List Value}
theorem Sr (b4:m≤1000000) (j:Nat) (O:k0+j+1 < m) (h:gF S m (k0+j+1) us):∃ M,gF S m (k0+j+1+1) M∧
  V.Ends Tryz.prog false 1 0 (lb 67 fA) (gX m ((aR S (k0+j+1)).length:Int) (k0*3) (m - k0) ((j+1:Nat):Int) us) (gS m ((aR S (k0+j+1)).length:Int) (k0*3) (m - k0) ((j+1:Nat):Int) us) .normal (gX m ((aR S (k0+j+1+1)).length:Int) (k0*3) (m - k0) ((j+1+1:Nat):Int) M) (gS m ((aR S (k0+j+1+1)).length:Int) (k0*3) (m - k0) ((j+1+1:Nat):Int) M):=by
 have b3:=h.len
 have b2:=h.k1
 obtain ⟨U,Z,ab⟩:=h.at (k0+j+1) (by omega) O
 obtain ⟨aE,a1,a6⟩:=h.at (k0+j) (by omega) (by omega)
 have G:=Nk m ((aR S (k0+j+1)).length:Int) (k0*3) (m - k0) ((j+1:Nat):Int) us
 have e1:((j+1:Nat):Int) - 1=(j:Int):=by omega
 have b0:k0*3+(j+1)*3=(k0+j+1)*3:=by omega
 have b1:k0*3+j*3=(k0+j)*3:=by omega
 simp only [e1,Int.toNat_natCast,b0,b1,U,Z,ab,aE,a1,a6,Nat.zero_add] at G
 rw [dT (show ((j+1:Nat):Int) < ((m - k0:Nat):Int) by omega),dT (show (0:Int)≤((j+1:Nat):Int) by omega),dT (show (k0+j+1)*3 < us.length by omega),dT (show (k0+j+1)*3+1 < us.length by omega),dT (show (k0+j+1)*3+1+1 < us.length by omega),aJ (z:=(j:Int)) (by omega),dT (show (0:Int)≤(j:Int) by omega),dT (show (j:Int) < ((m - k0:Nat):Int) by omega),
  dT (show (k0+j)*3 < us.length by omega),dT (show (k0+j)*3+1 < us.length by omega),dT (show (k0+j)*3+1+1 < us.length by omega),dT (show (0:Int)≤((aR S (k0+j+1)).length:Int) by omega),dT (show ((aR S (k0+j+1)).length:Int) < (m:Int) by omega),dT (show (aR S (k0+j+1)).length*3+3≤us.length by omega),aJ (z:=((aR S (k0+j+1)).length:Int)+1) (by omega),aJ (z:=((j+1:Nat):Int)+1) (by omega)] at G
 have bD:(ar (.bool (ad.qn (S (k0+j+1))))==ar (.bool (ad.qn (S (k0+j))))&&(aF (ag (.string (ad.qs (S (k0+j+1))))) (ag (.string (ad.qs (S (k0+j)))))&&(aF (ag (.string (ad.qd (S (k0+j+1))))) (ag (.string (ad.qd (S (k0+j)))))&&true)))=decide (S (k0+j+1)=S (k0+j)):=Nd _ _
 rw [bD] at G
 by_cases I:S (k0+j+1)=S (k0+j)
 ·rw [decide_eq_true I] at G
  have J:=h.same (by omega) (by rw [Nat.add_sub_cancel];exact I)
  have a7:aR S (k0+j+1+1)=aR S (k0+j+1):=by
   show (if _ then _ else _)=_
   rw [if_pos ⟨by omega,by rw [Nat.add_sub_cancel];exact I⟩]
  exact ⟨us,J,by rw [a7];exact EX G⟩
 ·rw [decide_eq_false I] at G
  obtain ⟨J,bx⟩:=h.more O (by rw [Nat.add_sub_cancel];exact I)
  exact ⟨_,J,by rw [bx];exact EX G⟩
theorem Sq (ab:m≤1000000) (r:Nat):∀ (j:Nat) (us:List Value),k0+j+1+r=m→gF S m (k0+j+1) us→∃ G,gF S m m G∧
  bN Tryz.prog 1 (lb 67 fA) (gX m ((aR S (k0+j+1)).length:Int) (k0*3) (m - k0) ((j+1:Nat):Int) us) (gS m ((aR S (k0+j+1)).length:Int) (k0*3) (m - k0) ((j+1:Nat):Int) us) (.exit 2) (gX m ((aR S m).length:Int) (k0*3) (m - k0) ((m - k0:Nat):Int) G) (gS m ((aR S m).length:Int) (k0*3) (m - k0) ((m - k0:Nat):Int) G):=by
 induction r with
 | zero=>
  intro j us Z h
  have e:m=k0+j+1:=by omega
  subst e
  refine ⟨us,h, .last (EX ?_) (by intro h;cases h)⟩
  have I:k0+j+1 - k0=j+1:=by omega
  rw [Nk,I,dF (show ¬ ((j+1:Nat):Int) < ((j+1:Nat):Int) by omega)]
  rfl
 | succ r aE=>
  intro j us Z h
  obtain ⟨G,J,M⟩:=Sr ab j (by omega) h
  obtain ⟨a1,O,U⟩:=aE (j+1) G (by omega) J
  exact ⟨a1,O, .more M U⟩
end
def uq (m:Nat) (k:Int) (o q:Nat) (j:Int) (us:List Value):Prop:=∃ k0:Nat,k=k0∧o=k0*3∧q=m - k0∧j=1∧0 < k0∧k0 < m∧m≤1000000∧us=bZ m (qt us)∧aR (qt us) (k0+1)=(List.range k0).map (qt us)
def Dj (m:Nat) (k:Int) (o q:Nat) (j:Int) (us:List Value) (ρ:Int×Int×List Value):Prop:=ρ.1=((aR (qt us) m).length:Int)∧gF (qt us) m m ρ.2.2
theorem UL {us:List Value} {m k0:Nat} (U:k0 < m) (I:us=bZ m (qt us)) (G:aR (qt us) (k0+1)=(List.range k0).map (qt us)):gF (qt us) m (k0+1) us:=by
 have O:us.length=m*3:=by rw [I,ll]
 have M:(aR (qt us) (k0+1)).length=k0:=by rw [G,List.length_map,List.length_range]
 refine ⟨O,by omega, ?_,fun i Z J c G=> ?_⟩
 ·rw [M,G,← qz]
  conv=>lhs;rw [I]
  obtain ⟨r,rfl⟩:∃ r,m=k0+r:= ⟨m - k0,by omega⟩
  unfold bZ
  rw [List.range_add,List.flatMap_append]
  exact List.take_left' (ll k0 (qt us))
 ·conv=>lhs;rw [I]
  exact nB m (qt us) J G
theorem X7 (m:Nat) (k:Int) (o q:Nat) (j:Int) (us:List Value) (h:uq m k o q j us):∃ ρ:Int×Int×List Value,bN Tryz.prog 1 (lb 67 fA) (gX m k o q j us) (gS m k o q j us) (.exit 2) (gX m ρ.1 o q ρ.2.1 ρ.2.2) (gS m ρ.1 o q ρ.2.1 ρ.2.2)∧Dj m k o q j us ρ:=by
 obtain ⟨k0,rfl,rfl,rfl,rfl,aE,J,U,Z,I⟩:=h
 obtain ⟨ab,M,G⟩:=Sq (k0:=k0) U (m - (k0+1)) 0 us (by omega) (UL J Z I)
 have O:(aR (qt us) (k0+1)).length=k0:=by rw [I,List.length_map,List.length_range]
 rw [Nat.add_zero,O] at G
 exact ⟨(_,_,ab),G,rfl,M⟩
def FM (I:Nat→Int→Nat→Nat→Int→List Value→Bool) (G:Nat→Int→Nat→Nat→Int→List Value→Int×Int×List Value) (T:List AV) (H:Hp):Option (Bool×Ex×List AV×Hp):=
 match al T 0,al T 2,al T 3,al T 4,al T 5,H with
 | .sl false 27 0 0 m, .val (.slice none 0 0), .val (.int .i64 k), .sl false 27 0 o q, .val (.int .i64 j), [.row (.vals us) 27 .live]=>bif T.length==61 then some (I m k o q j us, .exit 2,gX m ((G m k o q j us).1) o q ((G m k o q j us).2.1) ((G m k o q j us).2.2),gS m ((G m k o q j us).1) o q ((G m k o q j us).2.1) ((G m k o q j us).2.2)) else none
 | _,_,_,_,_,_=>none
abbrev HW:Type:=Nat→Int→Nat→Nat→Int→List Value→Bool
abbrev Ho:Type:=Nat→Int→Nat→Nat→Int→List Value→Int×Int×List Value
def wz (G:HW) (I:Ho) (L:aD):aD:=bu 1 67 fA [0,2,3,4,5] (FM G I) L
def jQ (m:Nat) (k:Int) (o q:Nat) (j:Int) (us:List Value):Int×Int×List Value:=Classical.epsilon fun ρ=>bN Tryz.prog 1 (lb 67 fA) (gX m k o q j us) (gS m k o q j us) (.exit 2) (gX m (ρ.1) o q (ρ.2.1) (ρ.2.2)) (gS m (ρ.1) o q (ρ.2.1) (ρ.2.2))∧Dj m k o q j us ρ
theorem Mp (m:Nat) (k:Int) (o q:Nat) (j:Int) (us:List Value) (h:uq m k o q j us):bN Tryz.prog 1 (lb 67 fA) (gX m k o q j us) (gS m k o q j us) (.exit 2) (gX m ((jQ m k o q j us).1) o q ((jQ m k o q j us).2.1) ((jQ m k o q j us).2.2)) (gS m ((jQ m k o q j us).1) o q ((jQ m k o q j us).2.1) ((jQ m k o q j us).2.2))∧Dj m k o q j us (jQ m k o q j us):=Classical.epsilon_spec (X7 m k o q j us h)
def sQ (m:Nat) (k:Int) (o q:Nat) (j:Int) (us:List Value):Bool:= @decide (uq m k o q j us) (Classical.propDecidable _)
theorem TU (m:Nat) (k:Int) (o q:Nat) (j:Int) (us:List Value) (h:uq m k o q j us):sQ m k o q j us=true:= @decide_eq_true _ (Classical.propDecidable _) h
theorem ac5 (T:List AV) (H:Hp) (e:Ex) (J:List AV) (I:Hp) (h:FM sQ jQ T H=some (true,e,J,I)):V.Ends Tryz.prog false 1 0 (.loop (lb 67 fA)) T H e J I:=by
 unfold FM at h
 split at h
 ·rename_i m k o q j us U Z ab aE a1
  rw [Bool.cond_eq_ite] at h
  split at h
  ·rename_i M
   rw [beq_iff_eq] at M
   simp only [Option.some.injEq,Prod.mk.injEq,Bool.and_eq_true,decide_eq_true_eq] at h
   obtain ⟨k1,rfl,rfl,rfl⟩:=h
   have a7:= @of_decide_eq_true _ (Classical.propDecidable _) k1
   refine Ends.pre (Mp m k o q j us a7).1.ends (fun α B w D bx a6=>bw M (fun p O y G=> ?_) a6)
   simp only [List.mem_cons,List.not_mem_nil,or_false] at O
   rcases O with rfl | rfl | rfl | rfl | rfl
   ·rw [U] at G;exact G
   ·rw [Z] at G;exact G
   ·rw [ab] at G;exact G
   ·rw [aE] at G;exact G
   ·rw [a1] at G;exact G
  ·cases h
 ·cases h
theorem P5 {L:aD} (h:aC Tryz.prog L):aC Tryz.prog (wz sQ jQ L):=h.bC Rg ac5
abbrev eA:List Bool:= [false,true,false,true,true]
def gD (m:Nat) (k:Int) (us:List Value):List AV:=ao 61 [(0, .sl false 27 0 0 m),(2, .val (.slice none 0 0)),(3, .val (.int .i64 k))]
def fN (m:Nat) (k:Int) (us:List Value):Hp:= [.row (.vals us) 27 .live]
theorem Rf:aI Tryz.prog 67 eA=some (.loop (lb 67 eA)):=by kernel_rfl
theorem S0:aI Tryz.prog 67 (false :: eA)=some (lb 67 eA):=by kernel_rfl
theorem Nj (U:HW) (Z:Ho) (m:Nat) (k:Int) (us:List Value):letI I:=(0+k.toNat*3);letI G:=(Z m k I (m - k.toNat) (1:Int) us);letI O:=(us.getD (0+(k - 1).toNat*3+1+1) undef);letI M:=(aF (ag (us.getD (0+k.toNat*3+1) undef)) (ag (us.getD (0+(k - 1).toNat*3+1) undef))&&(aF (ag (us.getD (0+k.toNat*3+1+1) undef)) (ag O)&&true));letI J:=(us.getD (0+(k - 1).toNat*3) undef);
  (eL Tryz.prog (⟨aM,az,wz U Z aq⟩:Env) 1 67 [0,2,3] (lb 67 eA) (false :: eA) (gD m k us) (fN m k us)=(bif decide (k < (↑m:Int)) then (bif decide (0≤k)&&decide (k < (↑m:Int)) then (bif decide (0+k.toNat*3 < us.length) then (bif decide (0+k.toNat*3+1 < us.length) then (bif decide (0+k.toNat*3+1+1 < us.length) then (bif ah IntKind.i64 (k - 1) then (bif decide (0≤k - 1)&&decide (k - 1 < (↑m:Int)) then (bif decide (0+(k - 1).toNat*3 < us.length) then (bif decide (0+(k - 1).toNat*3+1 < us.length) then (bif decide (0+(k - 1).toNat*3+1+1 < us.length) then (bif dh (us.getD I undef)&&dh J then (bif bP (us.getD (0+k.toNat*3+1) undef)&&bP (us.getD (0+(k - 1).toNat*3+1) undef) then (bif bP (us.getD (0+k.toNat*3+1+1) undef)&&bP O then (bif bif false then !(ar (us.getD I undef)==ar J&&M) else ar (us.getD I undef)==ar J&&M then (bif decide (0≤k)&&decide (k≤(↑m:Int)) then (bif U m k I (m - k.toNat) (1:Int) us then (bif decide (0≤G.fst)&&decide (G.fst≤(↑m:Int)) then (bif decide (0 < m - G.fst.toNat)&&decide (0+G.fst.toNat*3+(m - G.fst.toNat)*3≤G.snd.snd.length) then (bif decide (0≤G.fst)&&decide (G.fst≤(↑m:Int)) then some (.ret,ao 61 [(0,(.sl false 27 0 0 m)),(2,(.sl false 27 0 0 (G.fst.toNat - 0))),(3,(.val (.int .i64 (G.fst))))], [(.row (.vals (((List.take (0+G.fst.toNat*3) (G.snd.snd)) ++ (oo (m - G.fst.toNat) [(.val (.bool false)),(.val (.string (ByteArray.mk #[]))),(.val (.string (ByteArray.mk #[])))])) ++ (List.drop (0+G.fst.toNat*3+(m - G.fst.toNat)*3) (G.snd.snd)))) 27 .live)]) else none) else none) else none) else none) else none) else (bif ah IntKind.i64 (k+1) then some (.normal,ao 61 [(0,(.sl false 27 0 0 m)),(2,(.val (.slice .none 0 0))),(3,(.val (.int .i64 (k+1))))], [(.row (.vals us) 27 .live)]) else none)) else none) else none) else none) else none) else none) else none) else none) else none) else none) else none) else none) else none) else some ((.exit 0),ao 61 [(0,(.sl false 27 0 0 m)),(2,(.val (.slice .none 0 0))),(3,(.val (.int .i64 k)))], [(.row (.vals us) 27 .live)]))):=by kernel_rfl
theorem y9 {m:Nat} {k:Int} {us:List Value} {e:Ex} {T:List AV} {H:Hp} (h:eL Tryz.prog (⟨aM,az,wz sQ jQ aq⟩:Env) 1 67 [0,2,3] (lb 67 eA) (false :: eA) (gD m k us) (fN m k us)=some (e,T,H)):V.Ends Tryz.prog false 1 0 (lb 67 eA) (gD m k us) (fN m k us) e T H:=
 pF (aK _) (P5 aC.none).ok mixed S0 h
section
variable {m : Nat} {us : List Value}
theorem oJ {m:Nat} {us:List Value} (M:us=bZ m (qt us)):∀ i,i < m→us.getD (i*3) undef= .bool (ad.qn (qt us i))∧us.getD (i*3+1) undef= .string (ad.qs (qt us i))∧us.getD (i*3+1+1) undef= .string (ad.qd (qt us i)):=fun i hi=>by
 have G:=nB m (qt us) hi (show 0 < 3 by decide)
 have I:=nB m (qt us) hi (show 1 < 3 by decide)
 have J:=nB m (qt us) hi (show 2 < 3 by decide)
 rw [← M] at G I J
 exact ⟨G,I,J⟩
theorem BI (b2:m≤1000000) (I:us=bZ m (qt us)) (k:Nat) (M:k+1 < m) {r:Option (Ex×List AV×Hp)} (h:eL Tryz.prog (⟨aM,az,wz sQ jQ aq⟩:Env) 1 67 [0,2,3] (lb 67 eA) (false :: eA) (gD m ((k+1:Nat):Int) us) (fN m ((k+1:Nat):Int) us)=r):
  (qt us (k+1)≠qt us k→r=some (.normal,gD m ((k+1+1:Nat):Int) us,fN m ((k+1+1:Nat):Int) us))∧
  (qt us (k+1)=qt us k→aR (qt us) (k+1)=(List.range (k+1)).map (qt us)→r=some (.ret,ao 61 [(0, .sl false 27 0 0 m),(2, .sl false 27 0 0 (aR (qt us) m).length),(3, .val (.int .i64 ((aR (qt us) m).length:Int)))], [.row (.vals (aV (aR (qt us) m) ++ oo (m - (aR (qt us) m).length) [.val (.bool false), .val (.string (ByteArray.mk #[])), .val (.string (ByteArray.mk #[]))])) 27 .live])):=by
 have b6:us.length=m*3:=by rw [I,ll]
 obtain ⟨aE,a1,a6⟩:=oJ I (k+1) M
 obtain ⟨a7,bx,bD⟩:=oJ I k (by omega)
 rw [Nj] at h
 have e1:((k+1:Nat):Int) - 1=(k:Int):=by omega
 simp only [e1,Int.toNat_natCast,Nat.zero_add,aE,a1,a6,a7,bx,bD] at h
 rw [dT (show ((k+1:Nat):Int) < (m:Int) by omega),dT (show (0:Int)≤((k+1:Nat):Int) by omega),dT (show (k+1)*3 < us.length by omega),dT (show (k+1)*3+1 < us.length by omega),dT (show (k+1)*3+1+1 < us.length by omega),aJ (z:=(k:Int)) (by omega),dT (show (0:Int)≤(k:Int) by omega),dT (show (k:Int) < (m:Int) by omega),
  dT (show k*3 < us.length by omega),dT (show k*3+1 < us.length by omega),dT (show k*3+1+1 < us.length by omega),dT (show ((k+1:Nat):Int)≤(m:Int) by omega),aJ (z:=((k+1:Nat):Int)+1) (by omega)] at h
 have b3:(ar (.bool (ad.qn (qt us (k+1))))==ar (.bool (ad.qn (qt us k)))&&(aF (ag (.string (ad.qs (qt us (k+1))))) (ag (.string (ad.qs (qt us k))))&&(aF (ag (.string (ad.qd (qt us (k+1))))) (ag (.string (ad.qd (qt us k))))&&true)))=decide (qt us (k+1)=qt us k):=Nd _ _
 rw [b3] at h
 constructor
 ·intro G
  rw [decide_eq_false G] at h
  exact h.symm
 ·intro G b0
  have b1:aR (qt us) (k+1+1)=(List.range (k+1)).map (qt us):=by
   show (if _ then _ else _)=_
   rw [if_pos ⟨by omega,by rw [Nat.add_sub_cancel];exact G⟩,b0]
  have O:uq m ((k+1:Nat):Int) ((k+1)*3) (m - (k+1)) 1 us:= ⟨k+1,rfl,rfl,rfl,rfl,by omega,M,b2,I,b1⟩
  obtain ⟨U,J⟩:=(Mp _ _ _ _ _ _ O).2
  have b4:=J.len
  have b5:=J.k1
  have Z:=J.pre
  rw [decide_eq_true G,TU _ _ _ _ _ _ O] at h
  generalize jQ m ((k+1:Nat):Int) ((k+1)*3) (m - (k+1)) 1 us=ρ at*
  obtain ⟨b7,ch,ab⟩:=ρ
  simp only at U J b4 b5 Z h
  subst U
  simp only [Int.toNat_natCast,Nat.sub_zero] at h
  rw [dT (show (0:Int)≤((aR (qt us) m).length:Int) by omega),dT (show ((aR (qt us) m).length:Int)≤(m:Int) by omega),dT (show 0 < m - (aR (qt us) m).length by omega),dT (show (aR (qt us) m).length*3+(m - (aR (qt us) m).length)*3≤ab.length by omega),Z,List.drop_eq_nil_of_le (show ab.length≤(aR (qt us) m).length*3+(m - (aR (qt us) m).length)*3 by omega),List.append_nil] at h
  exact h.symm
end
def pc (S:Nat→Rat) (m:Nat):Prop:=∀ i,0 < i→i < m→S i≠S (i - 1)
section
variable {m : Nat} {us : List Value}
theorem Sn (I:m≤1000000) (M:us=bZ m (qt us)) (J:pc (qt us) m) (r:Nat):∀ k:Nat,m=k+1+r→bN Tryz.prog 1 (lb 67 eA) (gD m ((k+1:Nat):Int) us) (fN m ((k+1:Nat):Int) us) (.exit 0) (gD m (m:Int) us) (fN m (m:Int) us):=by
 induction r with
 | zero=>
  intro k G
  have:m=k+1:=by omega
  subst this
  refine .last (y9 ?_) (by intro h;cases h)
  rw [Nj,dF (show ¬ ((k+1:Nat):Int) < ((k+1:Nat):Int) by omega)]
  rfl
 | succ r O=>
  intro k G
  exact .more (y9 ((BI I M k (by omega) rfl).1 (J (k+1) (by omega) (by omega)))) (O (k+1) (by omega))
theorem UM (G:m≤1000000) (J:us=bZ m (qt us)) (d:Nat) (M:d+1 < m) (O:qt us (d+1)=qt us d) (I:pc (qt us) (d+1)) (r:Nat):∀ k:Nat,d=k+r→bN Tryz.prog 1 (lb 67 eA) (gD m ((k+1:Nat):Int) us) (fN m ((k+1:Nat):Int) us) .ret (ao 61 [(0, .sl false 27 0 0 m),(2, .sl false 27 0 0 (aR (qt us) m).length),(3, .val (.int .i64 ((aR (qt us) m).length:Int)))]) [.row (.vals (aV (aR (qt us) m) ++ oo (m - (aR (qt us) m).length) [.val (.bool false), .val (.string (ByteArray.mk #[])), .val (.string (ByteArray.mk #[]))])) 27 .live]:=by
 induction r with
 | zero=>
  intro k U
  have:d=k:=by omega
  subst this
  exact .last (y9 ((BI G J d M rfl).2 O (BZ _ I))) (by intro h;cases h)
 | succ r Z=>
  intro k U
  exact .more (y9 ((BI G J k (by omega) rfl).1 (I (k+1) (by omega) (by omega)))) (Z (k+1) (by omega))
end
def yJ (m:Nat) (k:Int) (us:List Value):Prop:=k=1∧0 < m∧m≤1000000∧us=bZ m (qt us)∧pc (qt us) m
def Di (m:Nat) (k:Int) (us:List Value) (ρ:Int):Prop:=True
theorem X6 (m:Nat) (k:Int) (us:List Value) (h:yJ m k us):∃ ρ:Int,bN Tryz.prog 1 (lb 67 eA) (gD m k us) (fN m k us) (.exit 0) (gD m ρ us) (fN m ρ us)∧Di m k us ρ:=by
 obtain ⟨rfl,M,G,J,I⟩:=h
 exact ⟨_,Sn G J I (m - 1) 0 (by omega),trivial⟩
def FL (I:Nat→Int→List Value→Bool) (G:Nat→Int→List Value→Int) (T:List AV) (H:Hp):Option (Bool×Ex×List AV×Hp):=
 match al T 0,al T 2,al T 3,H with
 | .sl false 27 0 0 m, .val (.slice none 0 0), .val (.int .i64 k), [.row (.vals us) 27 .live]=>bif T.length==61 then some (I m k us, .exit 0,gD m ((G m k us)) us,fN m ((G m k us)) us) else none
 | _,_,_,_=>none
abbrev HU:Type:=Nat→Int→List Value→Bool
abbrev Hn:Type:=Nat→Int→List Value→Int
def A6 (G:HU) (I:Hn) (L:aD):aD:=bu 1 67 eA [0,2,3] (FL G I) L
def rB (m:Nat) (k:Int) (us:List Value):Int:=Classical.epsilon fun ρ=>bN Tryz.prog 1 (lb 67 eA) (gD m k us) (fN m k us) (.exit 0) (gD m (ρ) us) (fN m (ρ) us)∧Di m k us ρ
theorem ZP (m:Nat) (k:Int) (us:List Value) (h:yJ m k us):bN Tryz.prog 1 (lb 67 eA) (gD m k us) (fN m k us) (.exit 0) (gD m ((rB m k us)) us) (fN m ((rB m k us)) us)∧Di m k us (rB m k us):=Classical.epsilon_spec (X6 m k us h)
def xc (m:Nat) (k:Int) (us:List Value):Bool:= @decide (yJ m k us) (Classical.propDecidable _)
theorem TT (m:Nat) (k:Int) (us:List Value) (h:yJ m k us):xc m k us=true:= @decide_eq_true _ (Classical.propDecidable _) h
theorem ac4 (T:List AV) (H:Hp) (e:Ex) (J:List AV) (I:Hp) (h:FL xc rB T H=some (true,e,J,I)):V.Ends Tryz.prog false 1 0 (.loop (lb 67 eA)) T H e J I:=by
 unfold FL at h
 split at h
 ·rename_i m k us U Z ab
  rw [Bool.cond_eq_ite] at h
  split at h
  ·rename_i M
   rw [beq_iff_eq] at M
   simp only [Option.some.injEq,Prod.mk.injEq,Bool.and_eq_true,decide_eq_true_eq] at h
   obtain ⟨k1,rfl,rfl,rfl⟩:=h
   have a1:= @of_decide_eq_true _ (Classical.propDecidable _) k1
   refine Ends.pre (ZP m k us a1).1.ends (fun α B w D a6 aE=>bw M (fun p O y G=> ?_) aE)
   simp only [List.mem_cons,List.not_mem_nil,or_false] at O
   rcases O with rfl | rfl | rfl
   ·rw [U] at G;exact G
   ·rw [Z] at G;exact G
   ·rw [ab] at G;exact G
  ·cases h
 ·cases h
theorem P4 {L:aD} (h:aC Tryz.prog L):aC Tryz.prog (A6 xc rB L):=h.bC Rf ac4
abbrev po:List Bool:= [false,true,false,true,true]
def Ep (m:Nat) (k:Int) (us:List Value):List AV:=ao 61 [(0, .sl false 27 0 0 m),(2, .val (.slice none 0 0)),(3, .val (.int .i64 k))]
def CG (m:Nat) (k:Int) (us:List Value):Hp:= [.row (.vals us) 27 .live]
theorem Rh:aI Tryz.prog 67 po=some (.loop (lb 67 po)):=by kernel_rfl
def yY (m p:Nat) (k:Int) (us:List Value):List AV:=ao 61 [(0, .sl false 27 0 0 m),(2, .sl false 27 0 0 p),(3, .val (.int .i64 k))]
def xV (m p:Nat) (k:Int) (us:List Value):Hp:= [.row (.vals us) 27 .live]
def ur (m:Nat) (k:Int) (us:List Value):Prop:=k=1∧0 < m∧m≤1000000∧us=bZ m (qt us)∧∃ d,d+1 < m∧qt us (d+1)=qt us d∧pc (qt us) (d+1)
def Dk (m:Nat) (k:Int) (us:List Value) (ρ:Nat×Int×List Value):Prop:=ρ.1=(aR (qt us) m).length∧ρ.2.2=aV (aR (qt us) m) ++ oo (m - (aR (qt us) m).length) [.val (.bool false), .val (.string (ByteArray.mk #[])), .val (.string (ByteArray.mk #[]))]
theorem X8 (m:Nat) (k:Int) (us:List Value) (h:ur m k us):∃ ρ:Nat×Int×List Value,bN Tryz.prog 1 (lb 67 po) (Ep m k us) (CG m k us) .ret (yY m ρ.1 ρ.2.1 ρ.2.2) (xV m ρ.1 ρ.2.1 ρ.2.2)∧Dk m k us ρ:=by
 obtain ⟨rfl,U,J,O,d,G,I,M⟩:=h
 exact ⟨((aR (qt us) m).length,((aR (qt us) m).length:Int),_),UM J O d G I M d 0 (by omega),rfl,rfl⟩
def FN (I:Nat→Int→List Value→Bool) (G:Nat→Int→List Value→Nat×Int×List Value) (T:List AV) (H:Hp):Option (Bool×Ex×List AV×Hp):=
 match al T 0,al T 2,al T 3,H with
 | .sl false 27 0 0 m, .val (.slice none 0 0), .val (.int .i64 k), [.row (.vals us) 27 .live]=>bif T.length==61 then some (I m k us, .ret,yY m ((G m k us).1) ((G m k us).2.1) ((G m k us).2.2),xV m ((G m k us).1) ((G m k us).2.1) ((G m k us).2.2)) else none
 | _,_,_,_=>none
abbrev HX:Type:=Nat→Int→List Value→Bool
abbrev Hq:Type:=Nat→Int→List Value→Nat×Int×List Value
def A7 (G:HX) (I:Hq) (L:aD):aD:=bu 1 67 po [0,2,3] (FN G I) L
def lE (m:Nat) (k:Int) (us:List Value):Nat×Int×List Value:=Classical.epsilon fun ρ=>bN Tryz.prog 1 (lb 67 po) (Ep m k us) (CG m k us) (.ret) (yY m (ρ.1) (ρ.2.1) (ρ.2.2)) (xV m (ρ.1) (ρ.2.1) (ρ.2.2))∧Dk m k us ρ
theorem Mq (m:Nat) (k:Int) (us:List Value) (h:ur m k us):bN Tryz.prog 1 (lb 67 po) (Ep m k us) (CG m k us) (.ret) (yY m ((lE m k us).1) ((lE m k us).2.1) ((lE m k us).2.2)) (xV m ((lE m k us).1) ((lE m k us).2.1) ((lE m k us).2.2))∧Dk m k us (lE m k us):=Classical.epsilon_spec (X8 m k us h)
def xe (m:Nat) (k:Int) (us:List Value):Bool:= @decide (ur m k us) (Classical.propDecidable _)
theorem TV (m:Nat) (k:Int) (us:List Value) (h:ur m k us):xe m k us=true:= @decide_eq_true _ (Classical.propDecidable _) h
theorem ac6 (T:List AV) (H:Hp) (e:Ex) (J:List AV) (I:Hp) (h:FN xe lE T H=some (true,e,J,I)):V.Ends Tryz.prog false 1 0 (.loop (lb 67 po)) T H e J I:=by
 unfold FN at h
 split at h
 ·rename_i m k us U Z ab
  rw [Bool.cond_eq_ite] at h
  split at h
  ·rename_i M
   rw [beq_iff_eq] at M
   simp only [Option.some.injEq,Prod.mk.injEq,Bool.and_eq_true,decide_eq_true_eq] at h
   obtain ⟨k1,rfl,rfl,rfl⟩:=h
   have a1:= @of_decide_eq_true _ (Classical.propDecidable _) k1
   refine Ends.pre (Mq m k us a1).1.ends (fun α B w D a6 aE=>bw M (fun p O y G=> ?_) aE)
   simp only [List.mem_cons,List.not_mem_nil,or_false] at O
   rcases O with rfl | rfl | rfl
   ·rw [U] at G;exact G
   ·rw [Z] at G;exact G
   ·rw [ab] at G;exact G
  ·cases h
 ·cases h
theorem P6 {L:aD} (h:aC Tryz.prog L):aC Tryz.prog (A7 xe lE L):=h.bC Rh ac6
theorem TP (G:HU) (I:Hn) (m:Nat) (us:List Value):wW Tryz.prog ⟨aM,az,A6 G I aq⟩ 10 10 67 [.sl false 27 0 0 m] [.row (.vals us) 27 .live]=
  (bif decide ((↑m:Int) < 2) then some ((.sl false 27 0 0 m), [(.row (.vals us) 27 .live)]) else (bif G m (1:Int) us then some ((.sl false 27 0 0 m), [(.row (.vals us) 27 .live)]) else none)):=by kernel_rfl
theorem TQ (I:HX) (G:Hq) (m:Nat) (us:List Value):wW Tryz.prog ⟨aM,az,A7 I G aq⟩ 10 10 67 [.sl false 27 0 0 m] [.row (.vals us) 27 .live]=
  (bif decide ((↑m:Int) < 2) then some ((.sl false 27 0 0 m), [(.row (.vals us) 27 .live)]) else (bif I m (1:Int) us then some ((.sl false 27 0 0 ((G m (1:Int) us).fst)), [(.row (.vals ((G m (1:Int) us).snd.snd)) 27 .live)]) else none)):=by kernel_rfl
end
end Go.Proofs.YtamcpiicmfielaaGreat.L
namespace Go.Proofs.YtamcpiicmfielaaGreat.L
open Go Go.V Go.RowKit Go.Shelf Go.Proofs.YtamcpiicmfielaaGreat.Sp
open Go.Proofs (Tryz.prog)
noncomputable section
structure SQ where
 val:Rat
 sz:bk val≤1000
theorem SQ.eq {x y:SQ} (h:x.val=y.val):x=y:=by cases x;cases y;cases h;rfl
instance:Inhabited SQ:= ⟨⟨0,Nat.le_trans O1 (by decide)⟩⟩
def qK (x:SQ):List Value:=iO x.val
def oK (x y:SQ):Int:=ad.cq x.val y.val
def qV (x y:Rat):Bool:=decide (x≤y)
theorem tW (x y:SQ):ltOf oK x y=decide (x.val < y.val):=by
 have h:oK x y < 0↔x.val < y.val:=by
  show fL x.val y.val < 0↔_
  unfold fL
  split
  ·rename_i h;exact ⟨fun _=>h,fun _=>by omega⟩
  ·split
   ·rename_i G I;exact ⟨fun h=>by omega,fun h=>absurd h G⟩
   ·rename_i G I;exact ⟨fun h=>by omega,fun h=>absurd h G⟩
 unfold ltOf
 by_cases G:x.val < y.val
 ·rw [decide_eq_true G];exact @decide_eq_true _ (Int.decLt _ _) (h.2 G)
 ·rw [decide_eq_false G];exact @decide_eq_false _ (Int.decLt _ _) (fun I=>G (h.1 I))
theorem acT:Go.Sort.SWO (ltOf oK) where
 irrefl x:=by rw [tW,decide_eq_false_iff_not];grind
 trans x y z G I:=by rw [tW,decide_eq_true_eq] at *;grind
 ntrans x y z G I:=by rw [tW,decide_eq_false_iff_not] at *;grind
theorem SN (x y:SQ) (W:World):Calls Tryz.prog 23 #[.agg (qK x).toArray, .agg (qK y).toArray] W fun e w'=>e= .returned (.int .i64 (oK x y))∧bm W.heap.size W w':=by
 have J:=x.sz
 have M:=y.sz
 have h:=lp [.agg [.val (.bool (ad.qn x.val)), .val (.string (ad.qs x.val)), .val (.string (ad.qd x.val))], .agg [.val (.bool (ad.qn y.val)), .val (.string (ad.qs y.val)), .val (.string (ad.qd y.val))]] (.val (.int .i64 (oK x y)))
  (by
   show some (ad.ok (ad.qs x.val) (ad.qd x.val)&&ad.ok (ad.qs y.val) (ad.qd y.val),AV.val (.int .i64 (ad.cq (ad.qv (ad.qn x.val) (ad.qs x.val) (ad.qd x.val)) (ad.qv (ad.qn y.val) (ad.qs y.val) (ad.qd y.val)))))=_
   rw [cM (q:=x.val) (by omega),cM (q:=y.val) (by omega),dN,dN];rfl)
  (fun _=>False) W #[.agg (qK x).toArray, .agg (qK y).toArray] (fun _ h=>h.elim) ⟨_,_,rfl,Bv _ _ _ _ _,_,_,rfl,Bv _ _ _ _ _,rfl⟩
 refine h.mono ?_
 rintro e w' ⟨v,rfl,I,G⟩
 have G:v= .int .i64 (oK x y):=G
 exact ⟨by rw [G],I⟩
theorem abQ {l:List Rat} (ab:∀ x ∈ l,bk x≤1000) (Z:0 < l.length) (aE:l.length≤1000000) {fl:Bool} {i:Nat} {H:Hp} (I:H[i]? =some (.row (.vals (aV l)) 27 .live)):
  df Tryz.prog 66 [.sl fl 27 i 0 l.length, .val (.func (.func 23) #[] #[])] H (.tup []) (H.set i (.row (.vals (aV (l.mergeSort qV))) 27 .live)):=by
 obtain ⟨G,rfl⟩:∃ G:List SQ,G.map SQ.val=l:= ⟨l.attach.map fun x=> ⟨x.1,ab x.1 x.2⟩,by rw [List.map_map];exact List.attach_map_subtype_val l⟩
 have e1:∀ k:List SQ,aV (k.map SQ.val)=k.flatMap qK:=fun k=>by
  unfold aV
  rw [List.flatMap_map];rfl
 have M:(G.map SQ.val).mergeSort qV=(G.mergeSort fun x y=> !ltOf oK y x).map SQ.val:=by
  refine (List.map_mergeSort (f:=SQ.val) (l:=G) fun a _ b _=> ?_).symm
  rw [tW]
  show (!decide (b.val < a.val))=decide (a.val≤b.val)
  by_cases h:a.val≤b.val
  ·rw [decide_eq_true h,decide_eq_false (by grind)];rfl
  ·rw [decide_eq_false h,decide_eq_true (by grind)];rfl
 rw [e1] at I
 rw [List.length_map] at*
 rw [M,e1]
 exact abR (k:=3) Xo (fun w=>by kernel_rfl) (fun w=>by kernel_rfl) (fun _=>rfl) (fun x v J=>by
  simp only [qK,iO,List.mem_cons,List.not_mem_nil,or_false] at J
  rcases J with rfl | rfl | rfl <;> rfl) acT (fun x y O U=>by
  rw [tW,decide_eq_false_iff_not] at O U
  exact SQ.eq (by grind)) (enters_of Tryz.func23 (by kernel_rfl) rfl) SN Z (by omega) I
def gK (m:Nat) (us:List Value):List Value:=aV (aR (qt us) m) ++ oo (m - (aR (qt us) m).length) [.val (.bool false), .val (.string (ByteArray.mk #[])), .val (.string (ByteArray.mk #[]))]
theorem UJ {m:Nat} {us:List Value} (M:us=bZ m (qt us)) (J:pc (qt us) m):(aR (qt us) m).length=m∧gK m us=us:=by
 have G:=BZ m J
 have I:(aR (qt us) m).length=m:=by rw [G,List.length_map,List.length_range]
 refine ⟨I, ?_⟩
 unfold gK
 rw [I,Nat.sub_self,G,← qz,← M]
 show us ++ []=us
 rw [List.append_nil]
theorem N8 {D:Nat→Prop} {α α':Nat→Nat×Nat} {B B':Nat→Prop} {w:World} {fl:Bool} {t:TypeId} {i off n:Nat} {y:Value} (h:(AV.sl fl t i off n).Rel Tryz.prog α B w D y) {D':Nat→Prop} {j:Nat} (J:D' j) (ha:α' j=α i):(AV.sl fl t j off n).Rel Tryz.prog α' B' w D' y:=by
 obtain ⟨_,cap,o,G,I⟩:=h
 exact ⟨J,cap,o,by rw [ha];exact G,by rw [ha];exact I⟩
theorem JD {m c:Nat} {us I:List Value} {rest:Hp} (O:df Tryz.prog 67 [.sl false 27 0 0 m] [.row (.vals us) 27 .live] (.sl false 27 0 0 c) (.row (.vals I) 27 .live :: rest)) {i:Nat} {H:Hp} (M:H[i]? =some (.row (.vals us) 27 .live)):
  df Tryz.prog 67 [.sl false 27 i 0 m] H (.sl false 27 i 0 c) (H.set i (.row (.vals I) 27 .live)):=
 St O M (fun D α B w U h=>by
  obtain ⟨y,zs,rfl,G,J⟩:=h
  exact ⟨G.1,y,zs,rfl,N8 G rfl rfl,J⟩) (fun D D' α α' B B' w y h hi ha=>N8 h hi ha.symm)
theorem JC {m:Nat} {us:List Value} (ab:m≤1000000) (O:us=bZ m (qt us)) {i:Nat} {H:Hp} (Z:H[i]? =some (.row (.vals us) 27 .live)):
  df Tryz.prog 67 [.sl false 27 i 0 m] H (.sl false 27 i 0 (aR (qt us) m).length) (H.set i (.row (.vals (gK m us)) 27 .live)):=by
 by_cases M:pc (qt us) m
 ·obtain ⟨G,I⟩:=UJ O M
  rw [G,I]
  refine JD (rest:= []) (Je (E:= ⟨aM,az,A6 xc rB aq⟩) (aK _) (P4 aC.none).ok mixed (u:=10) (d:=10) (by kernel_rfl) ?_) Z
  rw [TP]
  by_cases U:m < 2
  ·rw [dT (show (m:Int) < 2 by omega)];rfl
  ·rw [dF (show ¬ (m:Int) < 2 by omega),TT _ _ _ ⟨rfl,by omega,ab,O,M⟩];rfl
 ·have a7:∃ d,d+1 < m∧qt us (d+1)=qt us d:=by
   refine Classical.byContradiction fun b0=>M fun j bx b4 J=>b0 ⟨j - 1,by omega, ?_⟩
   rw [show j - 1+1=j by omega];exact J
  obtain ⟨a1,a6⟩:=a7
  obtain ⟨d, ⟨G,I⟩,U⟩:=least (p:=fun d=>d+1 < m∧qt us (d+1)=qt us d) a1 a6
  have bD:pc (qt us) (d+1):=fun j bx b3 J=>U (j - 1) (by omega) ⟨by omega,by rw [show j - 1+1=j by omega];exact J⟩
  have aE:ur m 1 us:= ⟨rfl,by omega,ab,O,d,G,I,bD⟩
  obtain ⟨b1,b2⟩:=(Mq _ _ _ aE).2
  refine JD (rest:= []) (Je (E:= ⟨aM,az,A7 xe lE aq⟩) (aK _) (P6 aC.none).ok mixed (u:=10) (d:=10) (by kernel_rfl) ?_) Z
  rw [TQ,dF (show ¬ (m:Int) < 2 by omega),TV _ _ _ aE,b1,b2];rfl
end
end Go.Proofs.YtamcpiicmfielaaGreat.L
